/-
 What changes at a key,begun;walked.
-/
import Derived.Test.YtbkjpdboaclopaaGreatDoorNd23
set_option linter.all false
set_option maxRecDepth 4000
namespace Go.Proofs.Mw
attribute [local irreducible] FW FL FG FGn jJ jO fC lJ Qfn Gives
def Sep.pick {α:Type} {f:α->HP} {L:List α} {i:Nat} {x:α} {w0 w:Wd} {S:NP} {rs:List HP} (H:Sep w0 S (rs++L.map f) w) (h:L[i]? =some x):Sep w0 S (f x::(rs++(L.eraseIdx i).map f)) w:=by
 have hi:i<L.length:=(zax.1 h).1
 have e:L=L.take i++x::L.drop (i+1):=by
  have h1:=zbs i L
  have h2:L.drop i=x::L.drop (i+1):=by
   rw[zbn hi]
   congr 1
   exact(zax.1 h).2
  rw[h2]at h1;exact h1.symm
 have e2:L.eraseIdx i=L.take i++L.drop (i+1):=List.eraseIdx_eq_take_drop_succ L i;rw[e2];rw[e]at H
 have k:Sep w0 S ((rs++(L.take i).map f)++f x::(L.drop (i+1)).map f) w:=by
  rw[zbm];simpa using H
 have I:=k.front;rw[zak,<-zbm];exact I
open Go.Lib
structure vL where
 b:Nat
 kv:Value
 sv:Value
 key:List aC
 ns:List Int
def NQ (c:vL):HP:=star (blk c.b [c.kv,c.sv] 435) (star (aU 47 3 ah c.kv c.key) (aU 231 3 bZ c.sv c.ns))
def UD (c:vL):Ent:=(eU c.key,av c.b)
abbrev gB:=Value×Value×List aC×List Int
def ig (s:gB):Ent:=(eU s.2.2.1,agg [s.1,s.2.1])
def gK (w:Wd) (L:List gB):Prop:=∀s∈L,(aJ w s.1 ah 3 s.2.2.1/\aJ w s.2.1 oQ 1 s.2.2.2)/\gI s.2.2.1
variable {w:Wd} {F:NP}
variable {k:List aC} {v:Value} {D Dh:List Ent}
def X8 {b2 b5 bg bm bh keys sums bc:Nat} {E2 E5 Eg:Td} (hk: ∀w1,Kept F w w1->aJ w1 v ah 3 k) (hn:k.length<=64) (D5:gI k) (hT: ∀w1,Kept F w w1->gT w1)
    (h2: ∀w1,Kept F w w1->gJ w1 b2 [av bg] E2) (h5: ∀w1,Kept F w w1->gJ w1 b5 [.map (some bm)] E5)
    (hp:(star (gV bm D) (gV bh Dh)).ok F w) (hd:mq D (eU k)=some (av bc)):
    aQ Tryz.prog 403 [v,av b5,av b2] w λu w'=>u=av bc/\Turn F (star (gV bm D) (gV bh Dh)) w w':=by
  have H:=(Sep.bW hp).bE;refine D9 Tryz.func403 ?_;refine Kz (acD (hk _ H.kept) hn D5 (hT _ H.kept)) (λ_ S _=>?_);refine V1 ?_;refine dM (h5 _ S.kept) (h:=?_);refine Mv ?_;refine dD (nN (i:=eU k) S At0 rfl rfl) rfl ?_;rw[hd];dsimp only[Option.getD_some];refine O1 ?_;refine Qn (Cd rfl (λI=>?_) (λI=>?_))
  . exact zas I sM
  refine V0 ?_;refine dM (h5 _ S.kept) (h:=?_);refine Mv ?_;refine dD (nN (i:=eU k) S At0 rfl rfl) rfl ?_;rw[hd];dsimp only[Option.getD_some];refine V1 ?_;exact⟨rfl,S.aR.turn⟩
theorem X9 {b2 b5 bg bm bh keys sums:Nat} {E2 E5 Eg:Td} {hv nv:Value} {ns:List Int} (hk: ∀w1,Kept F w w1->aJ w1 v ah 3 k) (hn:k.length<=64) (D5:gI k) (hT: ∀w1,Kept F w w1->gT w1)
    (h2: ∀w1,Kept F w w1->gJ w1 b2 [av bg] E2) (h5: ∀w1,Kept F w w1->gJ w1 b5 [.map (some bm)] E5) (hg: ∀w1,Kept F w w1->gJ w1 bg (q8 keys sums bh) Eg) (Kw:sums<=64)
    (hz:(mq Dh (eU k)).getD (agg [.slice none 0 0,.slice none 0 0])=agg [hv,nv]) (hns: ∀w1,Kept F w w1->aJ w1 nv oQ 1 ns) (Mq:ns.length<=sums+1) (Zb: ∀n∈ns,fits n)
    (hp:(star (gV bm D) (gV bh Dh)).ok F w) (hd:mq D (eU k)=none):
    aQ Tryz.prog 403 [v,av b5,av b2] w λu w'=>∃c:vL,u=av c.b/\(c.key=k/\c.ns=ns++List.replicate (sums+1-ns.length) 0)/\Turn F (star (NQ c) (star (gV bm (Bh D (eU k) (av c.b))) (gV bh Dh))) w w':=by
  have H:=(Sep.bW hp).bE;obtain⟨N,cn,rfl,⟨Pz,as6⟩,_⟩:=hns w (Kept.refl _ _);refine D9 Tryz.func403 ?_;refine Kz (acD (hk _ H.kept) hn D5 (hT _ H.kept)) (λ_ S _=>?_);refine V1 ?_;refine dM (h5 _ S.kept) (h:=?_);refine Mv ?_;refine dD (nN (i:=eU k) S At0 rfl rfl) rfl ?_;rw[hd];dsimp only[Option.getD_none];refine O1 ?_;refine Qn (Cd rfl (λS=>?_) (λS=>?_))
  . refine dB (λx:(OA×Nat)×Nat×Nat=>[(1,av b5),(2,av b2),(5,str (eU k)),(6,av x.2.2)]) (λx w'=>Mw.Sep w F [blk x.2.2 [.slice x.1.1 k.length x.1.2,.slice (some ⟨x.2.1,0,none⟩) (sums+1) (sums+1)] 435,aU 47 3 ah (.slice x.1.1 k.length x.1.2) k,vF 231 3 (.slice (some ⟨x.2.1,0,none⟩) (sums+1) (sums+1)) (sums+1) ((List.replicate (sums+1) (0:Int)).flatMap bZ),gV bm D,gV bh Dh] w') ?_ ?_
    . refine Dz (λa _ d=>?_)
      refine V1 ?_;refine Gl a 2 rfl rfl (Gives.nu rfl (h2 _ d.kept) rfl) (V2 ?_);refine GS (Gt rfl (Gives.nu rfl (hg _ d.kept) rfl) ?_);refine Gc a 6 ((sums+1:Nat):Int) ?_;refine jQ a (e1:=1) (e2:=7) kR ?_ ?_
      . refine j3 a 1 [(6,true),(5,false),(4,true),(3,true),(2,false)] d (qp (hk _ d.kept) oM) (h:=λy _ _ g _=>?_)
        obtain⟨Y,cy,rfl,_,_⟩:=Sep.bH g At0;refine⟨ay ((bQ rfl kR (Gives.nu rfl (hg _ g.kept) rfl) rfl (ay (ay ((bQ rfl kR (Gives.nu rfl (h2 _ g.kept) rfl) rfl (eF))))))),?_⟩;refine acE (t:=359) a 7 _ g (k:=sums+1) (cs:=(List.replicate (sums+1) (0:Int)).flatMap bZ) (hcs:=by exact rZ (enc:=bZ) dC 0 (sums+1)) (hk:=by unfold maxLen;omega) (hb:=by omega) (h:=λbw _ g=>?_);have g:=Sep.nU (n:=sums+1) (s:=3) g At0 (by rw[jw (jd.len (enc:=bZ) (k:=3)),zcx]) (by unfold maxLen;omega);refine⟨sT,?_⟩;refine Gp a 8 rfl rfl (λ_=>(Gives.build (Fills.one rfl rfl rfl sM rfl (Fills.one rfl rfl rfl sM rfl Fills.nil)))) (NK a 9 _ g (cs:=[.slice Y k.length cy,.slice (some ⟨bw,0,none⟩) (sums+1) (sums+1)]) rfl rfl (h:=λbc _ g=>⟨sT,?_⟩));refine V1 ?_;exact au ((Y,cy),bw,bc) tR g.aO.aF
      refine NJ (t:=359) a 7 _ d (k:=sums+1) (cs:=(List.replicate (sums+1) (0:Int)).flatMap bZ) (hcs:=by exact rZ (enc:=bZ) dC 0 (sums+1)) (hk:=by unfold maxLen;omega) (hb:=by omega) (h:=λbw _ g=>?_);have g:=Sep.nU (n:=sums+1) (s:=3) g At0 (by rw[jw (jd.len (enc:=bZ) (k:=3)),zcx]) (by unfold maxLen;omega);refine⟨sT,?_⟩;refine eB a 1 _ g (qp (hk _ g.kept) oM) (h:=λy _ _ g _=>?_);obtain⟨Y,cy,rfl,_,_⟩:=Sep.bH g At0;refine⟨sT,?_⟩;refine Gp a 8 rfl rfl (λ_=>(Gives.build (Fills.one rfl rfl rfl sM rfl (Fills.one rfl rfl rfl sM rfl Fills.nil)))) (NK a 9 _ g (cs:=[.slice Y k.length cy,.slice (some ⟨bw,0,none⟩) (sums+1) (sums+1)]) rfl rfl (h:=λbc _ g=>⟨sT,?_⟩));refine V1 ?_;exact au ((Y,cy),bw,bc) tR g
    rintro⟨⟨Y,cy⟩,bw,bc⟩ τ g g;dsimp only at g;refine Lp ?_;refine V0 ?_;refine dM (h2 _ g.kept) (h:=?_);refine V2 ?_;refine dM (hg _ g.kept) (h:=?_);refine Mv ?_;refine dD (v:=agg [hv,.slice N ns.length cn]) (by rw[<-hz];exact nN (i:=eU k) g At4 rfl rfl) rfl ?_;refine Vv (Gives.Yt rfl rfl) (V2 ?_);have Jb:sums+1=(List.replicate (sums+1) (0:Int)).length:=List.length_replicate.symm;have Pw:List.replicate (sums+1) (0:Int)=ns.take 0++List.replicate (sums+1-0) 0:=rfl
    refine aI (λi:Nat=>[(1,av b5),(2,av b2),(5,str (eU k)),(6,av bc),(31,.slice N ns.length cn),(32,I ns.length),(33,I i)]) (λi w'=>i<=ns.length/\Mw.Sep w F [aU 231 3 bZ (.slice (some ⟨bw,0,none⟩) (sums+1) (sums+1)) (ns.take i++List.replicate (sums+1-i) 0),blk bc [.slice Y k.length cy,.slice (some ⟨bw,0,none⟩) (sums+1) (sums+1)] 435,aU 47 3 ah (.slice Y k.length cy) k,gV bm D,gV bh Dh] w') (λi _=>ns.length-i) 0 tR ⟨zai _,by
      have h1:=g.aO;unfold aU;rw[<-Pw,<-Jb];exact h1⟩ (λi τ _ hI=>?_)
    clear Pw Jb;obtain⟨hi,g⟩:=hI;refine Lp ?_;refine Cz (λa=>?_) (λa=>?_)
    . have aX:i<ns.length:=oM
      obtain⟨m,hm⟩:=get_some aX;have ap6:=λw1 h1=>eX (hns w1 h1);have Fw:sums+1=(ns.take i++List.replicate (sums+1-i) (0:Int)).length:=by rw[zad,zah,zcx];omega
      have xk:(ns.take i++List.replicate (sums+1-i) (0:Int)).set i m=ns.take (i+1)++List.replicate (sums+1-(i+1)) 0:=by
        rw[zed _ _ (by rw[zah];omega),zah,zcp hi,zec,show sums+1-i=(sums+1-(i+1))+1 from oM,zes,zdf,zat,hm,zbm];rfl
      refine V1 ?_;refine Vv (Gives.fA rfl rfl (ap6 _ g.kept) aX) (Vv (Gives.dG (f:=0) rfl (Sep.aH _) (ap6 _ g.kept) hm rfl) ?_);refine Dz (λa _ d=>?_);refine V6 ?_;refine dA a 6 [(4,true),(3,false),(2,true),(1,true),(0,true)] d (Uk m (Zb m (zag hm))) (h:=λ_ d _=>⟨sL,?_⟩);refine GS (Gn rfl (λ_=>Gives.LB (enc:=bZ) (l:=ns.take i++List.replicate (sums+1-i) (0:Int)) Fw rfl rfl (j5 Fw d At0) oM) ?_);refine JD a 8 _ (i:=i) m Fw d At0 oM rfl (h:=λ_ d=>⟨sT,?_⟩);rw[xk]at d;refine V0 ?_;refine Vc ((i+1:Nat):Int) ?_;refine V1 ?_;exact aj (i+1) tR ⟨oM,d⟩ oM
    have jG:i=ns.length:=oM;rw[jG,zbq]at g;refine V0 ?_;refine dM (h5 _ g.kept) (h:=?_);refine V2 ?_;refine Ee (i:=eU k) (v:=av bc) g At3 (h:=λ_ d=>?_);refine Nx (dM (h5 _ d.kept) (h:=?_));refine Mv ?_;have hgt:mq (Bh D (eU k) (av bc)) (eU k)=some (av bc):=by rw[aix,zac rfl]
    refine dD (nN (i:=eU k) d At3 rfl rfl) rfl ?_;rw[hgt];dsimp only[Option.getD_some];refine V1 ?_;have e:(vL.mk bc (.slice Y k.length cy) (.slice (some ⟨bw,0,none⟩) (sums+1) (sums+1)) k (ns++List.replicate (sums+1-ns.length) 0)).b=bc:=rfl;exact⟨⟨bc,.slice Y k.length cy,.slice (some ⟨bw,0,none⟩) (sums+1) (sums+1),k,ns++List.replicate (sums+1-ns.length) 0⟩,rfl,⟨rfl,rfl⟩,(d.gu.gu.aR.aF.aS.aR.aO.aR.aR).turn⟩
  cases S
open Go.Proofs.Tryz
structure aeO (sums:Nat) (E:List bD) (K:List (List aC)) (C:List vL) (D:List Ent):Prop where
 keys:(C.map (·.key)).Perm K
 nums: ∀c∈C,c.ns=dZ sums E c.key
 fit: ∀c∈C,gI c.key
 data:D.Perm (C.map UD)
def Ya {C:List vL} (hD:D.Perm (C.map UD)) (hF: ∀c∈C,gI c.key) (hk:gI k) (h:mq D (eU k)=some v): ∃(i:Nat) (c:vL),C[i]? =some c/\c.key=k/\v=av c.b:=by
 obtain⟨c,hc,e⟩:=zar.1 (hD.mem_iff.1 (aiw h));obtain⟨i,hi,e2⟩:=zfk hc;unfold UD at e;injection e with e3 e4
 exact⟨i,c,by rw[zab hi,e2],Db (hF c hc) hk e3,e4.symm⟩
def ahF {C:List vL} (hD:D.Perm (C.map UD)) (h:mq D (eU k)=none): ∀c∈C,c.key≠k:=λc hc e=>
 DI.1 h (zar.2 ⟨UD c,hD.mem_iff.2 (zdp hc),by rw[<-e];rfl⟩)
def aaA {α:Type} {L:List α} {i:Nat} {x:α} (h:L[i]? =some x):(x::L.eraseIdx i).Perm L:=by
 have hi:i<L.length:=(zax.1 h).1;have h1:=zbs i L
 have h2:L.drop i=x::L.drop (i+1):=by
  rw[zbn hi]
  congr 1
  exact(zax.1 h).2
 rw[List.eraseIdx_eq_take_drop_succ L i]
 conv=>rhs;rw[<-h1,h2]
 exact List.perm_middle.symm
def Yb {b2 b5 bg bm bh keys sums:Nat} {E2 E5 Eg:Td} {hv nv:Value} {ns:List Int} (hk: ∀w1,Kept F w w1->aJ w1 v ah 3 k) (hn:k.length<=64) (D5:gI k) (hT: ∀w1,Kept F w w1->gT w1)
    (h2: ∀w1,Kept F w w1->gJ w1 b2 [av bg] E2) (h5: ∀w1,Kept F w w1->gJ w1 b5 [.map (some bm)] E5) (hg: ∀w1,Kept F w w1->gJ w1 bg (q8 keys sums bh) Eg) (Kw:sums<=64)
    (hz:(mq Dh (eU k)).getD (agg [.slice none 0 0,.slice none 0 0])=agg [hv,nv]) (hns: ∀w1,Kept F w w1->aJ w1 nv oQ 1 ns) (Mq:ns.length<=sums+1) (Zb: ∀n∈ns,fits n)
    (hp:(star (gV bm D) (gV bh Dh)).ok F w) (hd:mq D (eU k)=none\/∃bc,mq D (eU k)=some (av bc)):
    aQ Tryz.prog 403 [v,av b5,av b2] w λu w'=>(∃bc,mq D (eU k)=some (av bc)/\u=av bc/\Turn F (star (gV bm D) (gV bh Dh)) w w')\/
      (mq D (eU k)=none/\∃c:vL,u=av c.b/\(c.key=k/\c.ns=ns++List.replicate (sums+1-ns.length) 0)/\Turn F (star (NQ c) (star (gV bm (Bh D (eU k) (av c.b))) (gV bh Dh))) w w'):=by
  rcases hd with hd | ⟨bc,hd⟩
  . exact aQ.mono (X9 hk hn D5 hT h2 h5 hg Kw hz hns Mq Zb hp hd) λu w' h=>.inr ⟨hd,h⟩
  exact aQ.mono (X8 (keys:=keys) (sums:=sums) (Eg:=Eg) hk hn D5 hT h2 h5 hp hd) λu w' h=>.inl ⟨bc,hd,h⟩
variable {Z:List xC}
theorem aaB {bg bh keys sums:Nat} {Eg:Td} {E:List bD} (hg: ∀w1,Kept F w w1->gJ w1 bg (q8 keys sums bh) Eg)
    (hv: ∀w1,Kept F w w1->aJ w1 v qC 3 Z) (hZ: ∀w1,Kept F w w1->zh w1 Z) (hT: ∀w1,Kept F w w1->gT w1)
    (Kw:sums<=16) (hkl: ∀z∈Z,z.2.2.key.length<=16/\gI z.2.2.key) (hvl: ∀z∈Z,z.2.2.vals.length=sums) (hf: ∀z∈Z,fits z.2.2.w/\∀c∈z.2.2.vals,fits c.n) (hn:Z.length<=1000)
    (as7: ∀z∈Z,∃hv nv ns,(mq Dh (eU z.2.2.key)).getD (agg [.slice none 0 0,.slice none 0 0])=agg [hv,nv]/\(∀w1,Kept F w w1->aJ w1 nv oQ 1 ns)/\ns.length<=sums+1/\(∀n∈ns,fits n)/\ns++List.replicate (sums+1-ns.length) 0=dZ sums E z.2.2.key)
    (hp:(gV bh Dh).ok F w):
    aQ Tryz.prog 395 [av bg,v] w λu w'=>∃(bm:Nat) (D:List Ent) (C:List vL),u=.map (some bm)/\aeO sums (E++Z.map (·.2.2)) (fU (Z.map (·.2.2))) C D/\Mw.Sep w F (gV bm D::gV bh Dh::C.map NQ) w':=by
  have H:=Sep.bW hp;obtain⟨A,m,rfl,⟨hm,nX⟩,_⟩:=hv w (Kept.refl _ _);refine bU Tryz.func395 ?_;refine Sr (bB H (cs:=[av bg]) rfl (h:=λb2 w2 H2 k1=>?_));refine V1 ?_;refine vH H2 (h:=λbm w5 H5 k4=>?_);have H5:=Sep.U1 H5 At0;refine Az (λb5 w7 H7 k6=>?_);refine Uz (λw9 H9=>?_);refine V5 ?_;refine aI (λx:(List vL×List Ent)×Nat=>[(1,.slice A Z.length m),(2,av b2),(5,av b5),(6,.func (.func 403) #[] #[av b5,av b2]),(14,.slice A Z.length m),(15,I Z.length),(16,I x.2)]) (λx w'=>(x.2<=Z.length/\aeO sums (E++(Z.take x.2).map (·.2.2)) (fU ((Z.take x.2).map (·.2.2))) x.1.1 x.1.2)/\Mw.Sep w F (star (blk b5 [.map (some bm)] 431) (blk b2 [av bg] 93)::star (gV bm x.1.2) (gV bh Dh)::x.1.1.map NQ) w') (λx _=>Z.length-x.2) (([],[]),0) tR ⟨⟨zai _,⟨List.Perm.refl _,λc hc=>by simp at hc,λc hc=>by simp at hc,List.Perm.refl _⟩⟩,H9.aO.aF.aR.aO.aO.aR.aF⟩ (λx τ wa hI=>?_);obtain⟨⟨C,D⟩,i⟩:=x;obtain⟨⟨hi,hC⟩,Ha⟩:=hI;dsimp only at hi hC Ha;refine Lp ?_;refine Cz (λIe=>?_) (λIe=>?_)
  . have aX:i<Z.length:=oM
    obtain⟨z,hz⟩:=get_some aX;have Pp:=zag hz;obtain⟨kv,vv,e⟩:=z;have hKw: ∀w1,Kept F w w1->aJ w1 kv ah 3 e.key:=λw1 h1=>(hZ w1 h1 _ Pp).1;have hVw: ∀w1,Kept F w w1->aJ w1 vv ah 3 e.vals:=λw1 h1=>(hZ w1 h1 _ Pp).2;obtain⟨K,ck,rfl,_,_⟩:=hKw w (Kept.refl _ _);obtain⟨V,cv,rfl,_,_⟩:=hVw w (Kept.refl _ _);obtain⟨as9,ajm⟩:=hkl _ Pp;have ata:=hvl _ Pp;obtain⟨Bl,hfv⟩:=hf _ Pp;obtain⟨LY,nv0,ns0,hi1,Ku,hi3,hi4,hi5⟩:=as7 _ Pp;dsimp only at as9 ajm ata Bl hfv hi1 hi5;have hT1:(Z.take (i+1)).map (λz=>z.2.2)=(Z.take i).map (λz=>z.2.2)++[e]:=by rw[zat,hz,zak];rfl
    refine V0 ?_;refine Vv (Gives.fA rfl rfl (eX (hv _ Ha.kept)) aX) (Vv (Gives.iA rfl (Sep.aH _) (eX (hv _ Ha.kept)) hz) ?_);refine Az (λb8 wb Hb ka=>?_);refine Tz (λwc Hc=>?_);refine V3 ?_;have hnd:=Sep.ape (Hc.aO.bE) At0;obtain⟨F0,rC,gQ,VH,aK⟩:=Sep.BN (Hc.aF) At1;have Fu: ∀w1,Kept F0 _ w1->Kept F w w1:=λw1 h1=>Mw.Kept.into Hc.kept gQ h1
    have hd:mq D (eU e.key)=none\/∃bc,mq D (eU e.key)=some (av bc):=by
      cases hdg:mq D (eU e.key)with
      | none=>exact .inl rfl
      | some u=>
        obtain⟨j,c,_,_,rfl⟩:=Ya hC.data hC.fit ajm hdg;exact .inr ⟨c.b,rfl⟩
    refine eY (fs:=[]) (cs:=[av b5,av b2]) (vals:=[.slice K e.key.length ck]) rfl (Yb (keys:=keys) (sums:=sums) (bg:=bg) (Eg:=Eg) (λw1 h1=>hKw w1 (Fu w1 h1)) oM ajm (λw1 h1=>hT w1 (Fu w1 h1)) (λw1 h1=>by obtain⟨Fq,F1,F2,_,_,_,h2⟩:=VH w1 h1;exact h2.2) (λw1 h1=>by obtain⟨Fq,F1,F2,_,_,h2,_⟩:=VH w1 h1;exact h2.2) (λw1 h1=>hg w1 (Fu w1 h1)) oM hi1 (λw1 h1=>Ku w1 (Fu w1 h1)) hi3 hi4 rC hd) rfl rfl (λv' wd hv=>?_)
    have jN: ∃(c:vL) (Cr:List vL) (D2:List Ent),v'=av c.b/\c.key=e.key/\c.ns=dZ sums (E++(Z.take i).map (λz=>z.2.2)) e.key/\((c::Cr).map (λd=>d.key)).Perm (fU ((Z.take (i+1)).map λz=>z.2.2))/\(∀d∈Cr,d.key≠e.key/\d.ns=dZ sums (E++(Z.take i).map (λz=>z.2.2)) d.key/\gI d.key)/\D2.Perm ((c::Cr).map UD)/\Mw.Sep w F (NQ c::star (blk b5 [.map (some bm)] 431) (blk b2 [av bg] 93)::blk b8 (qC (.slice K e.key.length ck,.slice V e.vals.length cv,e)) 427::star (gV bm D2) (gV bh Dh)::Cr.map NQ) wd:=by
      have atc:(C.map (·.key)).Nodup:=hC.keys.symm.nodup (FX _)
      rcases hv with⟨bc,hdg,rfl,jH,F1,jB,xu⟩ | ⟨hdg,c,rfl,⟨dN,Pz⟩,jH,F1,jB,xu⟩
      . obtain⟨j,c,hj,dN,Pv⟩:=Ya hC.data hC.fit ajm hdg
        have H3:=Sep.pick (rs:=[_,_,_]) (aK _ F1 _ jH jB xu) hj;have DT:(c::C.eraseIdx j).Perm C:=aaA hj;have hcm:=zag hj;refine⟨c,C.eraseIdx j,D,Pv,dN,by rw[<-dN];exact hC.nums c hcm,?_,λd hd=>?_,hC.data.trans (DT.symm.map _),H3⟩
        . rw[hT1,oh,zac (hC.keys.mem_iff.1 (zar.2 ⟨c,hcm,dN⟩))]
          exact(DT.map _).trans hC.keys
        have hdC:=DT.mem_iff.1 (zau _ hd);refine⟨λh=>?_,hC.nums d hdC,hC.fit d hdC⟩;have h2:=(DT.map (·.key)).symm.nodup atc;rw[zav,zfa]at h2;exact h2.1 (zar.2 ⟨d,hd,by rw[h,dN]⟩)
      have mE:=ahF hC.data hdg
      have hnk:e.key∉fU ((Z.take i).map λz=>z.2.2):=λh=>by
        obtain⟨d,hd,hde⟩:=zar.1 (hC.keys.mem_iff.2 h);exact mE d hd hde
      refine⟨c,C,_,rfl,dN,by rw[Pz,hi5];exact(BH hnk).symm,?_,λd hd=>⟨mE d hd,hC.nums d hd,hC.fit d hd⟩,?_,(aK _ F1 _ jH jB xu).aO.bE.aS.aS.aO⟩
      . rw[hT1,oh,zaa hnk,zav,dN]
        exact(List.Perm.cons _ hC.keys).trans (List.perm_append_singleton _ _).symm
      have e1:Bh D (eU e.key) (av c.b)=D++[(eU e.key,av c.b)]:=by unfold Bh;rw[hdg];rfl
      rw[e1,zav];refine(List.perm_append_singleton _ _).trans ?_;unfold UD;rw[dN];exact List.Perm.cons _ hC.data
    obtain⟨⟨bc,kvc,svc,kc,nsc⟩,Cr,D2,rfl,dN,Pz,hpk,hCr,hD2,Hd⟩:=jN;dsimp only at dN Pz hpk hD2 Hd;subst dN;have Hd:=(Hd.bE.aF.bE).aF;dsimp only at Hd;obtain⟨Sv,cSv,rfl,_,_⟩:=Sep.bH Hd At0;have Mq:nsc.length=sums+1:=by rw[Pz,lI]
    have hnp:0<nsc.length:=oM;obtain⟨n0,zG⟩:=get_some hnp
    have ap7:nsc.set 0 (n0+e.w)=upN nsc e 1:=by
      have h1:=ach (x:=e) zG;rw[ag8]at h1;exact h1
    refine Dz (λSa we He=>?_);refine V8 ?_;refine GS (Gn rfl (λ_=>Gives.fA (i:=0) (enc:=bZ) rfl rfl (dP He At0) hnp) ?_);refine GS (Gt rfl (Gives.pF (i:=0) rfl (dP He At0) zG) ?_);refine V2 ?_;refine dA Sa 12 [(9,false),(8,true),(7,false),(6,true),(5,true),(4,true),(3,false),(2,true),(1,true),(0,true)] He (Uk e.w Bl) (h:=λwf Hf kb=>⟨(bQ rfl kR (Gives.pF (i:=0) rfl (dP Hf At0) zG) rfl (ay (iL Hf (h:=ay (ay (ay (iL Hf (h:=ay (ay (ay (eF))))))))))),?_⟩);refine dA Sa 13 [(3,false),(2,true),(1,true),(0,true)] Hf (Ul n0 e.w) (h:=λwg Hg kd=>⟨sL,?_⟩);refine GS (Gn rfl (λ_=>Gives.fA (i:=0) (enc:=bZ) rfl rfl (dP Hg At0) hnp) ?_);refine JD Sa 15 _ (i:=0) (n0+e.w) rfl Hg At0 hnp rfl (h:=λwh Hh=>⟨sT,?_⟩);rw[ap7]at Hh;refine V4 ?_;refine aI (λj:Nat=>[(1,.slice A Z.length m),(2,av b2),(5,av b5),(6,.func (.func 403) #[] #[av b5,av b2]),(8,av b8),(9,av bc),(14,.slice A Z.length m),(15,I Z.length),(16,I i),(40,.slice V e.vals.length cv),(41,I e.vals.length),(42,I j)]) (λj w'=>j<=e.vals.length/\Mw.Sep w F (aU 231 3 bZ (.slice Sv nsc.length cSv) (upN nsc e (j+1))::aU 47 3 ah kvc e.key::blk bc [kvc,.slice Sv nsc.length cSv] 435::star (blk b5 [.map (some bm)] 431) (blk b2 [av bg] 93)::blk b8 (qC (.slice K e.key.length ck,.slice V e.vals.length cv,e)) 427::star (gV bm D2) (gV bh Dh)::Cr.map NQ) w') (λj _=>e.vals.length-j) 0 tR ⟨zai _,Hh⟩ (λj τ wi hJ=>?_)
    obtain⟨hj,Hi⟩:=hJ;have abO:nsc.length=(upN nsc e (j+1)).length:=(Uf _ _ _).symm;refine Lp ?_;refine Cz (λIf=>?_) (λIf=>?_)
    . have ap8:j<e.vals.length:=oM
      obtain⟨cj,hcj⟩:=get_some ap8;have hfj:=hfv cj (zag hcj);have hjn:j+1<nsc.length:=oM;obtain⟨nj,hnj⟩:=get_some hjn;have huj:(upN nsc e (j+1))[j+1]? =some nj:=by rw[Af hnj,zaa oM]
      have alB:FJ e (j+1)=if cj.null=true then 0 else e.w*cj.n:=by
        unfold FJ;rw[zaa oM,zgd,zaz,hcj];rfl
      refine V1 ?_;refine Vv (Gives.fA rfl rfl (eX (hVw _ Hi.kept)) ap8) (Vv (Gives.iA rfl (Sep.aH _) (eX (hVw _ Hi.kept)) hcj) ?_);refine Az (λb11 wj Hj ke=>?_);refine Am ?_;refine Tz (λwk Hk=>?_);refine V2 ?_;refine Vv (Gives.not rfl) (Qn ?_);refine Cd rfl (λIg=>?_) (λIg=>?_)
      . have ajl:cj.null=false:=by simpa using Ig
        rw[ajl,zaa dC]at alB;have ap9:(upN nsc e (j+1)).set (j+1) (nj+e.w*cj.n)=upN nsc e (j+1+1):=by rw[<-ach hnj,alB]
        refine Dz (λSb wl Hl=>?_);refine V5 ?_;refine Gc Sb 5 ((j+1:Nat):Int) ?_;refine V5 ?_;refine Gc Sb 11 ((j+1:Nat):Int) ?_;refine GS (Gn rfl (λ_=>Gives.LB (i:=j+1) (enc:=bZ) (l:=upN nsc e (j+1)) abO rfl rfl (j5 abO Hl At1) oM) ?_);refine GS (Gt rfl (Gives.pF (i:=j+1) rfl (j5 abO Hl At1) huj) ?_);refine V4 ?_;refine dA Sb 18 [(13,false),(12,true),(11,true),(10,true),(9,false),(8,true),(7,true),(6,true),(5,true),(4,true),(3,false),(2,true),(1,true),(0,true)] Hl (ake e.w cj.n Bl hfj) (h:=λwm Hm kf=>⟨(bQ rfl kR (Gives.pF (i:=j+1) rfl (j5 abO Hm At1) huj) rfl (ay (ay (ay (iL Hm (h:=ay (ay (ay (ay (ay (iL Hm (h:=ay (ay (ay (eF))))))))))))))),?_⟩);refine dA Sb 19 [(5,true),(4,true),(3,false),(2,true),(1,true),(0,true)] Hm (Ul nj (e.w*cj.n)) (h:=λwn Hn kg=>⟨sL,?_⟩);refine GS (Gn rfl (λ_=>Gives.LB (i:=j+1) (enc:=bZ) (l:=upN nsc e (j+1)) abO rfl rfl (j5 abO Hn At1) oM) ?_);refine JD Sb 21 _ (i:=j+1) (nj+e.w*cj.n) abO Hn At1 oM rfl (h:=λwo Ho=>⟨sT,?_⟩);rw[ap9]at Ho;refine V0 ?_;refine Vc ((j+1:Nat):Int) ?_;refine V1 ?_;exact aj (j+1) tR ⟨oM,Ho.bI⟩ oM
      have ajl:cj.null=true:=by simpa using Ig
      rw[ajl,zac rfl]at alB;have aqa:=ag9 (ns:=nsc) alB;refine V0 ?_;refine Vc ((j+1:Nat):Int) ?_;refine V1 ?_;exact aj (j+1) tR ⟨oM,by rw[aqa];exact Hk.bI⟩ oM
    have Tv:j+1=sums+1:=oM
    have CW:upN nsc e (j+1)=dZ sums (E++(Z.take (i+1)).map (λz=>z.2.2)) e.key:=by
      rw[Tv,Pz,aj7,hT1,zbm]
    refine V0 ?_;have bX:Mw.Sep w F (star (blk b5 [.map (some bm)] 431) (blk b2 [av bg] 93)::star (gV bm D2) (gV bh Dh)::(⟨bc,kvc,.slice Sv nsc.length cSv,e.key,upN nsc e (j+1)⟩::Cr:List vL).map NQ) _:=(Hi.aF.aR.aF.aR.aO.bI.aO.aO);refine Vc ((i+1:Nat):Int) ?_;refine V1 ?_;exact aj ((⟨bc,kvc,.slice Sv nsc.length cSv,e.key,upN nsc e (j+1)⟩::Cr,D2),i+1) tR ⟨⟨dO,⟨hpk,λd hd=>by
    rcases zbb.1 hd with h | h
    . rw[h];exact CW
    . rw[hT1,<-zbm,aal (λh2=>(hCr d h).1 h2.symm)];exact(hCr d h).2.1,λd hd=>by
    rcases zbb.1 hd with h | h
    . rw[h];exact ajm
    exact(hCr d h).2.2,hD2⟩⟩,bX⟩ dO
  have jG:i=Z.length:=oM;rw[jG,zbq]at hC;refine V0 ?_;have Hp:=Ha.bE;refine Ld Hp ?_;refine V1 ?_;exact⟨bm,D,C,rfl,hC,Hp.bI.bI.bE⟩
def xU {l m:List aG} {va vb:Value} (hl:dS w va l) (hm:dS w vb m):
    Rk prog 17 [va,vb] w (.bool (decide (l=m))):=by
  obtain⟨r,hr,eP⟩:=hl;obtain⟨s,hs,Qq⟩:=hm;obtain⟨A,c,rfl,⟨hc,hc'⟩,hA⟩:=hr;obtain⟨B,d,rfl,⟨hd,hd'⟩,hB⟩:=hs;have yL:=eP.len;have YS:=Qq.len;have H:=Sep.aH w;refine bU func17 ?_;refine Cz (λk=>?_) (λk=>?_)
  . have iJ: ¬l=m:=λe=>k (by rw[yL,YS,e])
    refine V1 ?_;exact⟨by rw[zal iJ];rfl,H.kept⟩
  have hlen:r.length=s.length:=oM;refine V1 ?_;refine aI (λi:Nat=>[(0,.slice A r.length c),(1,.slice B s.length d),(5,I i)]) (λi w'=>(i<=r.length/\l.take i=m.take i)/\Mw.Sep w noB [] w') (λi _=>r.length-i) 0 tR ⟨⟨zai _,rfl⟩,H⟩ (λi τ _ hI=>?_);obtain⟨⟨hi,heq⟩,k⟩:=hI;refine Lp ?_;refine Cz (λS=>?_) (λS=>?_)
  . have aX:i<r.length:=oM
    have Fg:i<s.length:=oM;obtain⟨o,ho⟩:=get_some (l:=l) (show i<l.length from oM);obtain⟨p,hp⟩:=get_some (l:=m) (show i<m.length from oM);obtain⟨vo,zJ,DU⟩:=eP.get ho;obtain⟨vp,hvp,Eu⟩:=Qq.get hp;have dK:=Uv heq ho hp;refine Dz (λS _ a=>?_);refine V2 ?_;refine GS (Gn rfl (λ_=>Gives.fA rfl rfl hA aX) ?_);refine V1 ?_;refine GS (Gt rfl (Gives.dG (f:=1) rfl a hA zJ rfl) ?_);refine V2 ?_;refine GS (Gn rfl (λ_=>Gives.fA rfl rfl hB Fg) ?_);refine V1 ?_;refine GS (Gt rfl (Gives.dG (f:=1) rfl a hB hvp rfl) ?_);refine V2 ?_;refine fK (t:=28) rfl (λb=>?_) (λb=>?_)
    . refine V2 ?_
      have iJ: ¬l=m:=λe=>by
        have h1:=Mg.2 (dK.1 (by rw[e]));have h2:=h1.1;have h3:=h1.2;omega
      exact⟨by rw[zal iJ];rfl,a.kept⟩
    refine V2 ?_;refine GS (Gn rfl (λ_=>Gives.fA rfl rfl hA aX) ?_);refine V1 ?_;refine GS (Gt rfl (Gives.dG (f:=0) rfl a hA zJ rfl) ?_);refine V2 ?_;refine GS (Gn rfl (λ_=>Gives.fA rfl rfl hB Fg) ?_);refine V1 ?_;refine GS (Gt rfl (Gives.dG (f:=0) rfl a hB hvp rfl) ?_);refine dA S 22 _ a (uM (DU.keep a.kept) (Eu.keep a.kept)) (h:=λ_ b _=>⟨sT,?_⟩);refine GS (Gn rfl (λ_=>Gives.notP rfl) ?_);refine O1 ?_;refine fO S kR ?_;refine Cz (λS=>?_) (λS=>?_)
    . refine V1 ?_
      have iJ: ¬l=m:=λe=>by
        have h1:=Mg.2 (dK.1 (by rw[e]));have h2:=h1.1;have h3:=h1.2
        contradiction
      exact⟨by rw[zal iJ];rfl,b.kept⟩
    refine V1 ?_;have Qk:l.take (i+1)=m.take (i+1):=dK.2 (Mg.1 ⟨oM,Decidable.of_not_not (by assumption)⟩);refine Vc ((i+1:Nat):Int) ?_;refine V1 ?_;exact aj (i+1) tR ⟨⟨oM,Qk⟩,b⟩ oM
  have q9:l=m:=by
    rw[zaj oM,zaj oM]at heq;exact heq
  refine V1 ?_;exact⟨by rw[zap q9];rfl,k.kept⟩
def UE {bp:Nat} {tv:Value} {T:List aG} (hp:(star (blk bp [tv] 75) (BM tv T)).ok F w) (hn:T.length<=1000) (hTr: ∀o∈T,o.row.length<=1000):
    aQ prog 385 [av bp] w λu w'=>∃x:Value×List Held,u=x.1/\x.2.map (·.2)=T/\Turn F (star (dz x.1 x.2) (star (blk bp [tv] 75) (BM tv T))) w w':=by
  have H:=(Sep.bW hp).bE;refine dh func385 ?_;refine V5 ?_;have hT0:dS _ tv T:=Sep.sees H At1;refine Nz (ahB hT0 hn hTr) (λx _ hx k _=>?_);refine V1 ?_;exact⟨x,rfl,hx,(k.aF.aO.aF.aR.aF.aR).turn⟩
def aeP (keys sums:Int):aQ prog 31 [I keys,I sums] w λu w'=>
    (¬(0<=keys/\keys<=16/\0<=sums/\sums<=16)->u=.tuple #[.pointer none,I 2]/\Kept noB w w')/\
    ((0<=keys/\keys<=16/\0<=sums/\sums<=16)->∃x:Nat×Nat,u=.tuple #[av x.1,I 0]/\Turn noB (star (blk x.1 (q8 keys.toNat sums.toNat x.2) 129) (gV x.2 [])) w w'):=by
  have H:=Sep.aH w;refine bU func31 ?_;refine Sz (λk=>?_) (λk=>?_)
  . refine V7 ?_
    exact⟨λ_=>⟨rfl,H.kept⟩,λh=>oM⟩
  refine Sz (λk=>?_) (λk=>?_)
  . refine V5 ?_
    exact⟨λ_=>⟨rfl,H.kept⟩,λh=>oM⟩
  refine Sz (λk=>?_) (λk=>?_)
  . refine V3 ?_
    exact⟨λ_=>⟨rfl,H.kept⟩,λh=>oM⟩
  refine Cz (λk=>?_) (λk=>?_)
  . refine V2 ?_
    exact⟨λ_=>⟨rfl,H.kept⟩,λh=>oM⟩
  refine V2 ?_;refine vH H (h:=λbm _ k _=>?_);have k:=Sep.U1 k At0;refine Vb [.bool true,I keys,I sums,.map (some bm)] ?_;refine bB k (cs:=[.bool true,I keys,I sums,.map (some bm)]) rfl (h:=λbg _ k _=>?_);refine V2 ?_;exact⟨λh=>zas oM h,λh=>⟨(bg,bm),rfl,by
  have e1:((keys.toNat:Nat):Int)=keys:=zcs h.1;have e2:((sums.toNat:Nat):Int)=sums:=zcs h.2.2.1;unfold q8;rw[e1,e2];exact k.aR.turn⟩⟩
def NR {a b:List bT} {va vb:Value} (ha:aJ w va aM 7 a) (hb:aJ w vb aM 7 b):Rk prog 12 [va,vb] w (.bool (decide (a=b))):=by
  obtain⟨A,m,rfl,⟨hm,nX⟩,hA⟩:=ha;obtain⟨B,m2,rfl,⟨CU,asY⟩,hB⟩:=hb;have H:=Sep.aH w;refine bU func12 ?_;refine Cz (λVm=>?_) (λVm=>?_)
  . have iJ: ¬a=b:=λe=>Vm (by rw[e])
    refine V1 ?_;exact⟨by rw[zal iJ];rfl,H.kept⟩
  have hlen:a.length=b.length:=oM;refine V1 ?_;refine aI (λi:Nat=>[(0,.slice A a.length m),(1,.slice B b.length m2),(5,I i)]) (λi w'=>(i<=a.length/\a.take i=b.take i)/\Mw.Sep w noB [] w') (λi _=>a.length-i) 0 tR ⟨⟨zai _,rfl⟩,H⟩ (λi τ wa hI=>?_);obtain⟨⟨hi,heq⟩,Ha⟩:=hI;refine Lp ?_;refine Cz (λIe=>?_) (λIe=>?_)
  . have aX:i<a.length:=oM
    have Fg:i<b.length:=oM;obtain⟨x,hx⟩:=get_some aX;obtain⟨y,hy⟩:=get_some Fg;refine Dz (λSa wb Hb=>?_);refine V2 ?_;refine GS (Gn rfl (λ_=>Gives.fA rfl rfl hA aX) ?_);refine GS (Gt rfl (Gives.iA rfl Hb hA hx) ?_);refine V2 ?_;refine GS (Gn rfl (λ_=>Gives.fA rfl rfl hB Fg) ?_);refine GS (Gt rfl (Gives.iA rfl Hb hB hy) ?_);refine GS (Gn rfl (λ_=>Gives.akK (enc:=aM) x y rfl rfl) ?_);refine fO Sa kR ?_;refine Cz (λIf=>?_) (λIf=>?_)
    . have iJ: ¬a=b:=λe=>by
        subst e;rw[hx]at hy;injection hy with hy
        exact If hy
      refine V1 ?_;exact⟨by rw[zal iJ];rfl,Hb.kept⟩
    have hxy:x=y:=Decidable.of_not_not If;have Qk:a.take (i+1)=b.take (i+1):=by rw[zat,zat,hx,hy,heq,hxy]
    refine V1 ?_;refine Vc ((i+1:Nat):Int) ?_;refine V1 ?_;exact aj (i+1) tR ⟨⟨oM,Qk⟩,Hb⟩ oM
  have LU:a=b:=by
    have h1:=heq;rw[zaj oM,zaj oM]at h1;exact h1
  refine V1 ?_;exact⟨by rw[zap LU];rfl,Ha.kept⟩
def Gy {l:List bT} (hl:aJ w v aM 7 l) (mU:l.length<=1000):aQ prog 26 [v] w λv' w'=>∃x,v'=x/\True/\Turn noB (aU 49 7 aM x l) w w':=by
 obtain⟨A,m,rfl,⟨hm,nX⟩,hA⟩:=hl;have H:=Sep.aH w;refine dh func26 ?_;refine V4 ?_;have k:=Sep.iW H 49 7 aM;refine ni k At0 (hA.keep H.kept) (by unfold maxLen;simp;omega) (by simp;omega) (cells_one (λ_=>rfl) _) (h:=?_);intro v2 S k;refine V1 ?_;exact⟨_,rfl,trivial,by rw[zbw]at k;exact k.turn⟩
def Ef {l:List aG} (hl:dS w v l) (hn:l.length<=1000) (mU: ∀o∈l,o.row.length<=1000):aQ prog 43 [v] w λu w'=>∃x:Value×List Held,u=x.1/\x.2.map (·.2)=l/\Turn noB (dz x.1 x.2) w w':=by
 obtain⟨r,hr,eP⟩:=hl;obtain⟨A,m,rfl,⟨hm,nX⟩,hA⟩:=hr;have yL:=eP.len;have H:=Sep.aH w;refine dh func43 ?_;refine V3 ?_;refine aI (λx:(OA×Nat)×List Held×Nat=>[(0,.slice A r.length m),(3,.slice x.1.1 (aP x.2.1).length x.1.2),(4,I x.2.2)]) (λx w'=>(x.2.2<=r.length/\x.2.1.map (·.2)=l.take x.2.2)/\Mw.Sep w noB [aU 60 2 aA (.slice x.1.1 (aP x.2.1).length x.1.2) (aP x.2.1),vZ 47 3 ah (·.1) (λb:Held=>b.2.row) x.2.1] w') (λx _=>r.length-x.2.2) ((none,0),[],0) tR ⟨⟨zai _,rfl⟩,Sep.gy (bJ H) 60 2⟩ (λx τ _ hI=>?_);obtain⟨⟨R,cR⟩,L,i⟩:=x;obtain⟨⟨hi,hL⟩,k⟩:=hI;dsimp only at hi hL k;refine Lp ?_;refine Cz (λS=>?_) (λS=>?_)
 .have aX:i<r.length:=oM
  obtain⟨o,ho⟩:=get_some (l:=l) (show i<l.length from oM);have hom:=zag ho;obtain⟨vo,zJ,DU⟩:=eP.get ho;have hLr:(aP L).length=L.length:=zae _
  have hLn:L.length<=i:=by
   have h1:=zay List.length hL;rw[zae,zah]at h1;omega
  refine Dz (λS _ a=>?_);refine V3 ?_;refine GS (Gn rfl (λ_=>Gives.fA rfl rfl hA aX) ?_);refine V1 ?_;refine GS (Gt rfl (Gives.dG (f:=0) rfl a hA zJ rfl) ?_);refine Gm S 7 ?_;refine V1 ?_;refine GS (Gn rfl (λ_=>Gives.fA rfl rfl hA aX) ?_);refine V1 ?_;refine GS (Gt rfl (Gives.dG (f:=1) rfl a hA zJ rfl) ?_);refine eB S 6 [(11,false),(10,true),(9,true),(8,true),(7,true),(0,true)] a (mM (DU.keep a.kept) (mU o hom)) (h:=λy _ _ a _=>?_);obtain⟨Y,cy,rfl,_,_⟩:=Sep.bH a At0;refine⟨(bQ rfl kR (Gives.dG (f:=1) rfl a hA zJ rfl) rfl (ay (ay (ay (ay (ay (eF))))))),?_⟩;refine Gb S 12 (aA (.slice Y o.row.length cy,o.w)) ?_;refine Gz S 13 _ a ([(Value.slice Y o.row.length cy,o.w)].flatMap aA) (h:=λbs _ a=>⟨sT,?_⟩);refine gH S 14 _ a (news:=[(Value.slice Y o.row.length cy,o.w)]) At1 (by unfold maxLen;simp only[zaf];omega) (by simp only[zaf];omega) (λu hu=>zba.1 (show([(Value.slice Y o.row.length cy,o.w)].flatMap aA).all Value.oneCell'=true from rfl) u hu) (h:=λv9 _ a=>?_);obtain⟨R2,cR2,rfl,_,_⟩:=Sep.bH a At1
  have CV:aP L++[(Value.slice Y o.row.length cy,o.w)]=aP (L++[(Value.slice Y o.row.length cy,o)]):=by
   unfold aP;rw[zak];rfl
  have CU:(L++[(Value.slice Y o.row.length cy,o)]).map (·.2)=l.take (i+1):=by rw[zak,hL,zat,ho];rfl
  refine⟨sT,?_⟩;refine tq S 15 _ (h:=⟨sT,?_⟩);refine V1 ?_;refine Vc ((i+1:Nat):Int) ?_;refine V1 ?_;have zK:=(iF (x:=.slice Y o.row.length cy) (o:=o) (a.aO.aF)).aF;rw[CV]at zK;exact aj ((R2,cR2),L++[(Value.slice Y o.row.length cy,o)],i+1) ⟨rfl,by rw[<-CV];rfl,rfl,trivial⟩ ⟨⟨dO,CU⟩,zK⟩ dO
 have jG:l.take i=l:=zaj oM;refine V2 ?_;exact⟨(_,L),rfl,by dsimp only;rw[hL,jG],k.aR.turn⟩
def zi (keys sums:Nat) (lv:Value):LV:=[I keys,I sums,lv]
abbrev oU:=Value×Value×List aC×List Int
def grC (g:oU):LV:=[g.1,I (g.2.2.2.headD 0),g.2.1]
instance:jd grC 3:=⟨λ_=>rfl⟩
def jY (w:Wd) (G:List oU):Prop:=∀g∈G,aJ w g.1 ah 3 g.2.2.1/\aJ w g.2.1 oQ 1 (g.2.2.2.drop 1)
def jY.keep {w w':Wd} {G:List oU} (h:jY w G) (hk:Kept noB w w'):jY w' G:=λg hg=>⟨(h g hg).1.keep hk,(h g hg).2.keep hk⟩
def aaC (keys sums:Int):aQ prog 76 [I keys,I sums] w λu w'=>
    (¬(0<=keys/\keys<=16/\0<=sums/\sums<=16)->u=.tuple #[.pointer none,I 2]/\Kept noB w w')/\
    ((0<=keys/\keys<=16/\0<=sums/\sums<=16)->∃x:Nat,u=.tuple #[av x,I 0]/\Turn noB (blk x (zi keys.toNat sums.toNat (.slice none 0 0)) 201) w w'):=by
  have H:=Sep.aH w;refine bU func76 ?_;refine Sz (λk=>?_) (λk=>?_)
  . refine V7 ?_
    exact⟨λ_=>⟨rfl,H.kept⟩,λh=>oM⟩
  refine Sz (λk=>?_) (λk=>?_)
  . refine V5 ?_
    exact⟨λ_=>⟨rfl,H.kept⟩,λh=>oM⟩
  refine Sz (λk=>?_) (λk=>?_)
  . refine V3 ?_
    exact⟨λ_=>⟨rfl,H.kept⟩,λh=>oM⟩
  refine Cz (λk=>?_) (λk=>?_)
  . refine V2 ?_
    exact⟨λ_=>⟨rfl,H.kept⟩,λh=>oM⟩
  refine V2 ?_;refine Vb [I keys,I sums,.slice none 0 0] ?_;refine bB H (cs:=[I keys,I sums,.slice none 0 0]) rfl (h:=λbg _ k _=>?_);refine V2 ?_;exact⟨λh=>zas oM h,λh=>⟨bg,rfl,by
  have e1:((keys.toNat:Nat):Int)=keys:=zcs h.1;have e2:((sums.toNat:Nat):Int)=sums:=zcs h.2.2.1;unfold zi;rw[e1,e2];exact k.turn⟩⟩
def aaD {bg keys sums:Nat} {lv:Value} {E:Td} {z:xC} (hg:gJ w bg (zi keys sums lv) E) (hk:aJ w z.1 ah 3 z.2.2.key) (hv:aJ w z.2.1 ah 3 z.2.2.vals):
    Rk prog 128 [av bg,agg (qC z)] w (.bool (qA keys sums z.2.2)):=by
  obtain⟨kv,vv,e⟩:=z;dsimp only at hk hv ⊢;obtain⟨K,ck,rfl,⟨dN,anZ⟩,hK⟩:=hk;obtain⟨V,cv,rfl,⟨hcv,alA⟩,hV⟩:=hv;rw[X6];have H:=Sep.aH w;refine bU func128 ?_;refine Sr (bB H (cs:=qC (.slice K e.key.length ck,.slice V e.vals.length cv,e)) rfl (h:=λb3 w2 H2 k1=>?_));refine V2 ?_;refine aI (λi:Nat=>[(0,av bg),(3,av b3),(5,I i)]) (λi w'=>(i<=e.vals.length/\∀(j:Nat) c,j<i->e.vals[j]? =some c->Au c=false)/\Mw.Sep w noB [blk b3 (qC (.slice K e.key.length ck,.slice V e.vals.length cv,e)) 143] w') (λi _=>e.vals.length-i) 0 tR ⟨⟨zai _,λj c hj=>zas hj (zdw _)⟩,H2⟩ (λi τ w6 hI=>?_);obtain⟨⟨hi,uQ⟩,H6⟩:=hI;refine Lp ?_;refine Cz (λIe=>?_) (λIe=>?_)
  . have aX:i<e.vals.length:=oM
    obtain⟨c,hc⟩:=get_some aX;refine V3 ?_;refine Vv (Gives.fA rfl rfl hV aX) (Vv (Gives.iA rfl H6 hV hc) ?_);refine Az (λb6 wa Ha ka=>?_);refine Tz (λwb Hb=>?_);refine Sz (λSa=>?_) (λSa=>?_)
    . refine V2 ?_
      have Vt:Au c=true:=by unfold Au;simp only[decide_eq_true_eq];first | exact .inl (by assumption) | exact .inr ⟨by assumption,by assumption⟩
      have LW:e.vals.any Au=true:=zfz.2 ⟨c,zag hc,Vt⟩;exact⟨by rw[LW,Bool.not_true,Bool.and_false];rfl,Hb.kept⟩
    refine V3 ?_;refine dL (t:=25) rfl (λSb=>?_) (λSb=>?_)
    . refine Cz (λIf=>?_) (λIf=>?_)
      . refine V1 ?_
        have Vt:Au c=true:=by unfold Au;simp only[decide_eq_true_eq];first | exact .inl (by assumption) | exact .inr ⟨by assumption,by assumption⟩
        have LW:e.vals.any Au=true:=zfz.2 ⟨c,zag hc,Vt⟩;exact⟨by rw[LW,Bool.not_true,Bool.and_false];rfl,Hb.kept⟩
      refine V1 ?_;have Vt:Au c=false:=by unfold Au;simp only[decide_eq_false_iff_not,not_or,not_and];simp_all
      refine Vc ((i+1:Nat):Int) ?_;refine V1 ?_;exact aj (i+1) tR ⟨⟨oM,λj d hj hd=>by
      by_cases e2:j=i
      . subst e2;rw[hc]at hd;injection hd with hd;rw[<-hd];exact Vt
      exact uQ j d oM hd⟩,Hb.bI⟩ oM
    refine V3 ?_;have Vt:Au c=false:=by unfold Au;simp only[decide_eq_false_iff_not,not_or,not_and];simp_all
    refine Vc ((i+1:Nat):Int) ?_;refine V1 ?_;exact aj (i+1) tR ⟨⟨oM,λj d hj hd=>by
    by_cases e2:j=i
    . subst e2;rw[hc]at hd;injection hd with hd;rw[<-hd];exact Vt
    exact uQ j d oM hd⟩,Hb.bI⟩ oM
  have LW:e.vals.any Au=false:=by
    rw[List.any_eq_false];intro c hc;obtain⟨j,hj,e2⟩:=zfk hc;rw[uQ j c oM (by rw[zab hj,e2])]
    decide
  refine Dz (λSc wc Hc=>?_);refine V6 ?_;refine GS (Gt rfl (Gives.nu rfl (hg.keep Hc.kept) rfl) ?_);refine V2 ?_;refine fK (t:=39) rfl (λSd=>?_) (λSd=>?_)
  . refine V6 ?_
    refine GS (Gt rfl (Gives.nu rfl (hg.keep Hc.kept) rfl) ?_);refine V3 ?_
    first
    | exact⟨by rw[LW,Bool.not_false,Bool.and_true];exact zay Value.bool (zbf.2 ⟨λh=>⟨oM,oM⟩,λh=>by have h2:=h.2;omega⟩),Hc.kept⟩
    | exact⟨by rw[zal (show ¬(e.key.length=keys/\e.vals.length=sums)from λh=>by have h1:=h.1;have h2:=h.2;omega),zdx];rfl,Hc.kept⟩
  refine V2 ?_
  first
  | exact⟨by rw[LW,Bool.not_false,Bool.and_true];exact zay Value.bool (zbf.2 ⟨λh=>⟨oM,oM⟩,λh=>by have h2:=h.2;omega⟩),Hc.kept⟩
  | exact⟨by rw[zal (show ¬(e.key.length=keys/\e.vals.length=sums)from λh=>by have h1:=h.1;have h2:=h.2;omega),zdx];rfl,Hc.kept⟩
variable {vk:Value}
def ahG {G:List oU} {vl:Value} (hG:aJ w vl grC 3 G) (hR:jY w G) (hk:aJ w vk ah 3 k):
    Rk prog 129 [vl,vk] w (I (zR (G.findIdx? λg=>decide (g.2.2.1=k)))):=by
  obtain⟨A,m,rfl,⟨hm,nX⟩,hA⟩:=hG;have H:=Sep.aH w;refine bU func129 ?_;refine V2 ?_;refine aI (λi:Nat=>[(0,.slice A G.length m),(1,vk),(5,I i)]) (λi w'=>(i<=G.length/\∀(j:Nat) y,j<i->G[j]? =some y->decide (y.2.2.1=k)=false)/\Mw.Sep w noB [] w') (λi _=>G.length-i) 0 tR ⟨⟨zai _,λj y hj=>oM⟩,H⟩ (λi τ w4 hI=>?_);obtain⟨⟨hi,uQ⟩,H4⟩:=hI;refine Lp ?_;refine Cz (λhc9=>?_) (λhc9=>?_)
  . have aX:i<G.length:=oM
    obtain⟨g,hg⟩:=get_some aX;have hgR:=hR g (zag hg);refine V2 ?_;refine Vv (Gives.fA rfl rfl hA aX) (V1 ?_);refine Vv (Gives.dG (f:=0) rfl H4 hA hg rfl) (Mv ?_);refine Kz (uM (hgR.1.keep H4.kept) (hk.keep H4.kept)) (λwa Ha ka=>?_);refine Cz (λIe=>?_) (λIe=>?_)
    . have bX:G.findIdx? (λg=>decide (g.2.2.1=k))=some i:=uJ uQ hg (zap Ie)
      refine V2 ?_;exact⟨by rw[bX];rfl,Ha.kept⟩
    have G9:=Ie;refine V1 ?_;refine Vc ((i+1:Nat):Int) ?_;refine V1 ?_;exact aj (i+1) tR ⟨⟨oM,λj y hj hy=>by
    by_cases e:j=i
    . subst e;rw[hg]at hy;injection hy with hy;rw[<-hy];exact zal G9
    exact uQ j y oM hy⟩,Ha⟩ oM
  have bX:G.findIdx? (λg=>decide (g.2.2.1=k))=none:=qX λj y hy=>uQ j y (by have:=fI hy;omega) hy;refine V1 ?_;exact⟨by rw[bX];rfl,H4.kept⟩
def prE (k:List aC) (n:Nat) (x:bD):List (Int×Int):=
 if x.key=k then(if n=0 then [(x.w,1)]else if(x.vals.getD (n-1) cell0).null=true then []else [(x.w,(x.vals.getD (n-1) cell0).n)])else []
def akt (k:List aC) (n:Nat) (x:bD):rR (prE k n x)=if x.key=k then FJ x n else 0:=by
 unfold prE FJ
 by_cases h:x.key=k
 .rw[zac h,zac h]
  by_cases h0:n=0
  .rw[zac h0,zac h0];show x.w*1+0=x.w;omega
  rw[zaa h0,zaa h0]
  split
  .rfl
  exact zgf _
 rw[zaa h,zaa h];rfl
def acF (k:List aC) (n:Nat): ∀l:List bD,rR (l.flatMap (prE k n))=jL l k n
 | []=>rfl
 | x::l=>by rw[zbh,KU,akt,acF k n l,jL]
def p9 (base:Int) (k:List aC) (n:Nat) (l:List bD):List (Int×Int):=(base,1)::l.flatMap (prE k n)
def Ry (base:Int) (k:List aC) (n:Nat) (l:List bD):rR (p9 base k n l)=base+jL l k n:=by
 unfold p9;rw[rR,acF];show base*1+_=_;omega
def NS {base:Int} {k:List aC} {n:Nat} {j:Nat} {z:xC} (h:Z[j]? =some z):p9 base k n ((Z.take (j+1)).map (·.2.2))=p9 base k n ((Z.take j).map (·.2.2))++prE k n z.2.2:=by
 unfold p9;rw[zat,h,zak,zbv];simp
def aku (k:List aC) (n:Nat) (x:bD):(prE k n x).length<=1:=by
 unfold prE
 (repeat' split)<;>simp
def vM (base:Int) (k:List aC) (n:Nat): ∀l:List bD,(p9 base k n l).length<=l.length+1
 | []=>zbi _
 | x::l=>by
  have h1:=vM base k n l;have h2:=aku k n x;unfold p9 at h1 ⊢;rw[zbh];simp only[zaq,zad]at h1 ⊢;omega
theorem akv {ve:Value} {base:Int} (q:Nat) (hZ:aJ w ve qC 3 Z) (hR:zh w Z) (hk:aJ w vk ah 3 k) (hn:Z.length<=1000) (hb:fits base) (hf: ∀z∈Z,fits z.2.2.w/\∀c∈z.2.2.vals,fits c.n) (hq: ∀z∈Z,(-1:Int)<z.2.2.vals.length):
    Rk prog 130 [I base,ve,vk,I (-1:Int)] w (.tuple #[I (if aY (base+jL (Z.map (·.2.2)) k 0)=true then base+jL (Z.map (·.2.2)) k 0 else 0),I (if aY (base+jL (Z.map (·.2.2)) k 0)=true then 0 else 50)]):=by
  obtain⟨A,m,rfl,⟨hm,nX⟩,hA⟩:=hZ
  have hft: ∀l:List bD,(∀x∈l,fits x.w/\∀c∈x.vals,fits c.n)->∀p∈p9 base k 0 l,fits p.1/\fits p.2:=by
    intro l hl p hp;have h1:fits (1:Int):=by show -9223372036854775808<=(1:Int)/\(1:Int)<=9223372036854775807;decide
    have h0:fits (0:Int):=by show -9223372036854775808<=(0:Int)/\(0:Int)<=9223372036854775807;decide
    rcases zbb.1 hp with e | e
    . rw[e];exact⟨hb,h1⟩
    obtain⟨x,hx,e⟩:=zcc.1 e;obtain⟨h2,h3⟩:=hl x hx;unfold prE at e
    split at e
    . split at e
      . rw[zaw]at e;rw[e];exact⟨h2,h1⟩
      split at e
      . exact zas e zam
      rw[zaw]at e;rw[e];refine⟨h2,?_⟩;dsimp only;rw[zaz];cases hc:x.vals[0-1]? with
      | none=>exact h0
      | some c=>exact h3 c (zag hc)
    exact zas e zam
  have H:=Sep.aH w;refine yM func130 ?_;refine V3 ?_;refine Vv (Gives.zf (zs:=[I 0,I 0]) (out:=l7 (base,1)) rfl (Fills.one rfl rfl rfl sM rfl (Fills.one rfl rfl rfl sM rfl Fills.nil))) (Bs H ([(base,(1:Int))].flatMap l7) (λbs _ S _=>?_));have S:=Sep.nU (n:=1) (s:=2) S At0 rfl dC;refine V2 ?_;refine aI (λx:(OA×Nat)×Nat=>[(1,.slice A Z.length m),(2,vk),(3,I (-1:Int)),(10,.slice x.1.1 (p9 base k 0 ((Z.take x.2).map (·.2.2))).length x.1.2),(11,I x.2)]) (λx w'=>x.2<=Z.length/\Mw.Sep w noB [aU 211 2 l7 (.slice x.1.1 (p9 base k 0 ((Z.take x.2).map (·.2.2))).length x.1.2) (p9 base k 0 ((Z.take x.2).map (·.2.2)))] w') (λx _=>Z.length-x.2) ((some ⟨bs,0,none⟩,1),0) tR ⟨zai _,S⟩ (λx τ _ hI=>?_);obtain⟨⟨R,cR⟩,j⟩:=x;obtain⟨hj,S⟩:=hI;dsimp only at hj S;refine Lp ?_;refine Cz (λa=>?_) (λa=>?_)
  . have aX:j<Z.length:=oM
    obtain⟨z,hz⟩:=get_some aX;have Pp:=zag hz;obtain⟨kv,vv,e⟩:=z;obtain⟨hzk,hzv⟩:=hR _ Pp;have hqz:=hq _ Pp;dsimp only at hzk hzv hqz;obtain⟨V,cv,rfl,_,hV⟩:=hzv;have nH:=NS (base:=base) (k:=k) (n:=0) hz;dsimp only at nH;unfold prE at nH;have Ql:=vM base k 0 ((Z.take j).map (·.2.2));rw[zae,zah]at Ql;refine V2 ?_;refine Vv (Gives.fA rfl rfl hA aX) (V1 ?_);refine Vv (Gives.dG (f:=0) rfl S hA hz rfl) (Mv ?_);refine Kz (uM (hzk.keep S.kept) (hk.keep S.kept)) (λ_ a _=>?_);refine Vv (Gives.notP rfl) (Cz (λb=>?_) (λb=>?_))
    . rw[zaa b,zbt]at nH
      refine V1 ?_;refine Vc ((j+1:Nat):Int) ?_;refine V1 ?_
      first
      | exact aj ((R2,cR2),j+1) tR ⟨dO,a⟩ dO
      | exact aj ((R,cR),j+1) ⟨rfl,rfl,rfl,by dsimp only;rw[nH];rfl,rfl,trivial⟩ ⟨dO,by dsimp only;rw[nH];exact a⟩ dO
    rw[zac (Decidable.of_not_not b)]at nH;refine Cz (λb=>?_) (λb=>?_)
    . rw[zac rfl]at nH
      refine V3 ?_;refine Vv (Gives.fA rfl rfl hA aX) (V1 ?_);refine Vv (Gives.dG (f:=2) rfl a hA hz rfl) (Vv (Gives.zf (zs:=[I 0,I 0]) (out:=l7 (e.w,1)) rfl (Fills.one rfl rfl rfl sM rfl (Fills.one rfl rfl rfl sM rfl Fills.nil))) ?_);refine Bs a ([(e.w,(1:Int))].flatMap l7) (λbs _ a _=>?_);refine dJ a (news:=[(e.w,(1:Int))]) At0 (by unfold maxLen;simp only[zaf];omega) (by simp only[zaf];omega) (cells_one (λ_=>rfl) _) (h:=?_);intro v6 a a;rw[<-nH]at a;obtain⟨R2,cR2,rfl,_,_⟩:=Sep.bH a At0;refine V2 ?_;refine Vc ((j+1:Nat):Int) ?_;refine V1 ?_
      first
      | exact aj ((R2,cR2),j+1) tR ⟨dO,a⟩ dO
      | exact aj ((R,cR),j+1) ⟨rfl,rfl,rfl,by dsimp only;rw[nH];rfl,rfl,trivial⟩ ⟨dO,by dsimp only;rw[nH];exact a⟩ dO
    exact zas (show(-1:Int)<0 from dC) b
  have Tv:Z.take j=Z:=zaj oM;refine V1 ?_;have Pw:=jq S At0;have hpn:=vM base k 0 ((Z.take j).map (·.2.2));rw[zae,zah]at hpn
  have Tp:=hft ((Z.take j).map (·.2.2)) λx hx=>by
    obtain⟨z,hz,rfl⟩:=zar.1 hx;exact hf z (zcg hz)
  refine Kz (JJ Pw Tp oM) (λ_ a _=>?_);rw[Ry,Tv];refine V4 ?_;exact⟨rfl,a.kept⟩
theorem akw {ve:Value} {base:Int} (q:Nat) (hZ:aJ w ve qC 3 Z) (hR:zh w Z) (hk:aJ w vk ah 3 k) (hn:Z.length<=1000) (hb:fits base) (hf: ∀z∈Z,fits z.2.2.w/\∀c∈z.2.2.vals,fits c.n) (hq: ∀z∈Z,((q:Nat):Int)<z.2.2.vals.length):
    Rk prog 130 [I base,ve,vk,I ((q:Nat):Int)] w (.tuple #[I (if aY (base+jL (Z.map (·.2.2)) k (q+1))=true then base+jL (Z.map (·.2.2)) k (q+1)else 0),I (if aY (base+jL (Z.map (·.2.2)) k (q+1))=true then 0 else 50)]):=by
  obtain⟨A,m,rfl,⟨hm,nX⟩,hA⟩:=hZ
  have hft: ∀l:List bD,(∀x∈l,fits x.w/\∀c∈x.vals,fits c.n)->∀p∈p9 base k (q+1) l,fits p.1/\fits p.2:=by
    intro l hl p hp;have h1:fits (1:Int):=by show -9223372036854775808<=(1:Int)/\(1:Int)<=9223372036854775807;decide
    have h0:fits (0:Int):=by show -9223372036854775808<=(0:Int)/\(0:Int)<=9223372036854775807;decide
    rcases zbb.1 hp with e | e
    . rw[e];exact⟨hb,h1⟩
    obtain⟨x,hx,e⟩:=zcc.1 e;obtain⟨h2,h3⟩:=hl x hx;unfold prE at e
    split at e
    . split at e
      . rw[zaw]at e;rw[e];exact⟨h2,h1⟩
      split at e
      . exact zas e zam
      rw[zaw]at e;rw[e];refine⟨h2,?_⟩;dsimp only;rw[zaz];cases hc:x.vals[(q+1)-1]? with
      | none=>exact h0
      | some c=>exact h3 c (zag hc)
    exact zas e zam
  have H:=Sep.aH w;refine yM func130 ?_;refine V3 ?_;refine Vv (Gives.zf (zs:=[I 0,I 0]) (out:=l7 (base,1)) rfl (Fills.one rfl rfl rfl sM rfl (Fills.one rfl rfl rfl sM rfl Fills.nil))) (Bs H ([(base,(1:Int))].flatMap l7) (λbs _ S _=>?_));have S:=Sep.nU (n:=1) (s:=2) S At0 rfl dC;refine V2 ?_;refine aI (λx:(OA×Nat)×Nat=>[(1,.slice A Z.length m),(2,vk),(3,I ((q:Nat):Int)),(10,.slice x.1.1 (p9 base k (q+1) ((Z.take x.2).map (·.2.2))).length x.1.2),(11,I x.2)]) (λx w'=>x.2<=Z.length/\Mw.Sep w noB [aU 211 2 l7 (.slice x.1.1 (p9 base k (q+1) ((Z.take x.2).map (·.2.2))).length x.1.2) (p9 base k (q+1) ((Z.take x.2).map (·.2.2)))] w') (λx _=>Z.length-x.2) ((some ⟨bs,0,none⟩,1),0) tR ⟨zai _,S⟩ (λx τ _ hI=>?_);obtain⟨⟨R,cR⟩,j⟩:=x;obtain⟨hj,S⟩:=hI;dsimp only at hj S;refine Lp ?_;refine Cz (λa=>?_) (λa=>?_)
  . have aX:j<Z.length:=oM
    obtain⟨z,hz⟩:=get_some aX;have Pp:=zag hz;obtain⟨kv,vv,e⟩:=z;obtain⟨hzk,hzv⟩:=hR _ Pp;have hqz:=hq _ Pp;dsimp only at hzk hzv hqz;obtain⟨V,cv,rfl,_,hV⟩:=hzv;have nH:=NS (base:=base) (k:=k) (n:=(q+1)) hz;dsimp only at nH;unfold prE at nH;have Ql:=vM base k (q+1) ((Z.take j).map (·.2.2));rw[zae,zah]at Ql;refine V2 ?_;refine Vv (Gives.fA rfl rfl hA aX) (V1 ?_);refine Vv (Gives.dG (f:=0) rfl S hA hz rfl) (Mv ?_);refine Kz (uM (hzk.keep S.kept) (hk.keep S.kept)) (λ_ a _=>?_);refine Vv (Gives.notP rfl) (Cz (λb=>?_) (λb=>?_))
    . rw[zaa b,zbt]at nH
      refine V1 ?_;refine Vc ((j+1:Nat):Int) ?_;refine V1 ?_
      first
      | exact aj ((R2,cR2),j+1) tR ⟨dO,a⟩ dO
      | exact aj ((R,cR),j+1) ⟨rfl,rfl,rfl,by dsimp only;rw[nH];rfl,rfl,trivial⟩ ⟨dO,by dsimp only;rw[nH];exact a⟩ dO
    rw[zac (Decidable.of_not_not b)]at nH;refine Cz (λb=>?_) (λb=>?_)
    . omega
    obtain⟨cq,hcq⟩:=get_some (l:=e.vals) (show q<e.vals.length from oM);rw[zaa oM,zgd,zaz,hcq]at nH;dsimp only[Option.getD_some]at nH;refine V2 ?_;refine Vv (Gives.fA rfl rfl hA aX) (V1 ?_);refine Vv (Gives.dG (f:=1) rfl a hA hz rfl) (Mv ?_);refine Vv (Gives.fA (l:=e.vals) rfl rfl hV (fI hcq)) (V1 ?_);refine Vv (Gives.dG (f:=0) rfl a hV hcq rfl) (Vv (Gives.not rfl) ?_);refine Qn (Cd rfl (λb=>?_) (λb=>?_))
    . have Mq:cq.null=false:=by simpa using b
      rw[zaa (by rw[Mq];decide)]at nH;refine Dz (λd _ g=>?_);refine V3 ?_;refine GS (Gn rfl (λ_=>Gives.fA rfl rfl hA aX) ?_);refine V1 ?_;refine GS (Gt rfl (Gives.dG (f:=2) rfl g hA hz rfl) ?_);refine V2 ?_;refine GS (Gn rfl (λ_=>Gives.fA rfl rfl hA aX) ?_);refine V1 ?_;refine GS (Gt rfl (Gives.dG (f:=1) rfl g hA hz rfl) ?_);refine V1 ?_;refine GS (Gn rfl (λ_=>Gives.fA (l:=e.vals) rfl rfl hV (fI hcq)) ?_);refine V1 ?_;refine GS (Gt rfl (Gives.dG (f:=1) rfl g hV hcq rfl) ?_);refine GS (Gn rfl (λ_=>Gives.zf (zs:=[I 0,I 0]) (out:=l7 (e.w,cq.n)) rfl (Fills.one rfl rfl rfl sM rfl (Fills.one rfl rfl rfl sM rfl Fills.nil))) ?_);refine Gz d 16 _ g ([(e.w,cq.n)].flatMap l7) (h:=λbs _ g=>⟨sT,?_⟩);refine gH d 17 _ g (news:=[(e.w,cq.n)]) At0 (by unfold maxLen;simp only[zaf];omega) (by simp only[zaf];omega) (cells_one (λ_=>rfl) _) (h:=λv6 _ g=>?_);rw[<-nH]at g;obtain⟨R2,cR2,rfl,_,_⟩:=Sep.bH g At0;refine⟨sT,?_⟩;refine tq d 18 _ (h:=⟨sT,?_⟩);refine V1 ?_;refine Vc ((j+1:Nat):Int) ?_;refine V1 ?_
      first
      | exact aj ((R2,cR2),j+1) tR ⟨dO,g⟩ dO
      | exact aj ((R,cR),j+1) ⟨rfl,rfl,rfl,by dsimp only;rw[nH];rfl,rfl,trivial⟩ ⟨dO,by dsimp only;rw[nH];exact g⟩ dO
    have Mq:cq.null=true:=by simpa using b
    rw[zac Mq,zbt]at nH;refine V1 ?_;refine Vc ((j+1:Nat):Int) ?_;refine V1 ?_
    first
    | exact aj ((R2,cR2),j+1) tR ⟨dO,a⟩ dO
    | exact aj ((R,cR),j+1) ⟨rfl,rfl,rfl,by dsimp only;rw[nH];rfl,rfl,trivial⟩ ⟨dO,by dsimp only;rw[nH];exact a⟩ dO
  have Tv:Z.take j=Z:=zaj oM;refine V1 ?_;have Pw:=jq S At0;have hpn:=vM base k (q+1) ((Z.take j).map (·.2.2));rw[zae,zah]at hpn
  have Tp:=hft ((Z.take j).map (·.2.2)) λx hx=>by
    obtain⟨z,hz,rfl⟩:=zar.1 hx;exact hf z (zcg hz)
  refine Kz (JJ Pw Tp oM) (λ_ g _=>?_);rw[Ry,Tv];refine V4 ?_;exact⟨rfl,g.kept⟩
end Go.Proofs.Mw
