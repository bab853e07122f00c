/-
 Entries put to a keeper of groups;walked.
-/
import Derived.Test.YtkfpleidaoaonaaGreatDoorNu1
import Derived.Test.YtkfpleidaoaonaaGreatDoorNu3
import Derived.Test.YtkfpleidaoaonaaGreatDoorNu21
import Derived.Test.YtkfpleidaoaonaaGreatDoorNu14
import Derived.Test.YtkfpleidaoaonaaGreatDoorNu2
import Derived.Test.YtkfpleidaoaonaaGreatDoorNu18
import Derived.Test.YtkfpleidaoaonaaGreatDoorNu13
import Derived.Test.YtkfpleidaoaonaaGreatDoorNu19
set_option linter.unusedVariables false
set_option linter.unusedSimpArgs false
namespace Go.Proofs.YtkfpleidaoaonaaGreatDoor
open Go Go.Mw Go.Lib Tryz
set_option maxRecDepth 4000
attribute [local irreducible] FW FL FG FGn gu gy dh gH Qfn Gives
structure aqr where
 xv:Value
 LI:List Held
 Ln:List iD
 Lf:List Ent
structure aqs where
 L:List iD
 Lf:List Ent
 done:List (List aI)
theorem R9 (l:List dH):(mH l).length<=l.length:=by
 refine Om (p:=λl=>(mH l).length<=l.length) (zak _) (λl x ih=>?_) l;rw[yu,zad]
 split
 .omega
 rw[zad];simp only[zan];omega
theorem Ta (ks:List (List aI)) (f g:List aI->List Int):(ks.flatMap λk=>j6 (f k) k (-1)++j6 (g k) k 1).length<=2*ks.length:=by
 induction ks with
 | nil=>exact zak _
 | cons k ks ih=>
  have h1:=xL (f k) k (-1);have h2:=xL (g k) k 1;rw[zbg,zad,zad,zal];omega
theorem AJ {ns:List Int} {k:List aI} {wt:Int} {o:aH} (h:o∈j6 ns k wt):o.row=k++ns.map yY/\o.w=wt:=by
 unfold j6 at h
 split at h
 .exact zat h zaj
 rw[zay]at h;subst h;exact⟨rfl,rfl⟩
theorem aeh {ks:List (List aI)} {f g:List aI->List Int} {o:aH} (h:o∈ks.flatMap λk=>j6 (f k) k (-1)++j6 (g k) k 1): ∃k∈ks,(o.row=k++(f k).map yY\/o.row=k++(g k).map yY)/\(o.w= -1\/o.w=1):=by
 obtain⟨k,hk,h⟩:=zda.1 h
 rcases zbh.1 h with h | h
 .exact⟨k,hk,.inl (AJ h).1,.inl (AJ h).2⟩
 exact⟨k,hk,.inr (AJ h).1,.inr (AJ h).2⟩
section
variable {w:Wd} {F:NP}
theorem aei (n:Int):aN prog 402 [I n] w λv w'=>v=.bool (decide (n≠0))/\Kept noB w w':=by
 have H:=Sep.aL w;refine eP func402 rfl rfl rfl rfl ?_;refine Zb4 ?_;exact⟨rfl,H.kept⟩
theorem Tc {sums:Nat} {E:List dH} {L0:List iD} {k:List aI} (h:oK (stE sums E) L0) (hk:iM k) (hE:yX sums E=true):
    ∃(hv nv:Value) (k0:List aI) (ns0:List Int),(ow (L0.map je) (gB k)).getD (agg [.slice none 0 0,.slice none 0 0])=agg [hv,nv]/\(∀w1,iQ w1 L0->aM w1 hv aj 3 k0/\aM w1 nv CG 1 ns0)/\k0.length<=16/\ns0.length<=sums+1/\(∀n∈ns0,fits n)/\ns0++List.replicate (sums+1-ns0.length) 0=gL sums E k/\∀wt,j6 ns0 k0 wt=j6 (gL sums E k) k wt:=by
  have hns: ∀n∈gL sums E k,fits n:=λn hn=>by
    unfold gL at hn;obtain⟨i,hi,rfl⟩:=zaq.1 hn;have:=zba (tO.1 hE k i (by have:=zdl.1 hi;omega));unfold fits;omega
  cases hs:stE sums E k with
  | none=>
    rw[h.aqp hk hs];refine⟨_,_,[],[],rfl,λw1 _=>⟨Er _ _ _,Er _ _ _⟩,zak _,zak _,λn hn=>zat hn zaj,?_,λwt=>?_⟩
    . refine zel λi=>?_
      rw[zbr,zcq,zfk,List.getElem?_replicate]
      by_cases hi:i<sums+1
      . rw[zac hi,Aj oM,Bw hs oM]
      rw[zab hi,zcs (by rw[pQ];omega)]
    unfold j6;rw[Gz,Bw hs (zak _),zac rfl];rfl
  | some ns=>
    obtain⟨s,hm,e1,e2,e3⟩:=h.get hk hs;have e4:=Oq hs;rw[e3];refine⟨s.1,s.2.1,k,ns,rfl,λw1 hw=>?_,?_,?_,?_,?_,λwt=>by rw[e4]⟩
    . have:=(hw s hm).1
      rw[e1,e2]at this;exact this
    . have:=(h.fit s hm).2
      rw[e1]at this;exact this
    . rw[e4,pQ];exact zbf _
    . rw[e4];exact hns
    rw[e4,pQ,zev];simp
set_option maxHeartbeats 1000000 in
theorem X9 {bg bh keys sums:Nat} {v:Value} {Z:List JD} {E:List dH} (hp:(star (blk bg (uF keys sums bh) 150) (JK bh sums E)).ok F w)
    (hv: ∀w1,Kept F w w1->aM w1 v BD 3 Z) (hZ: ∀w1,Kept F w w1->Mf w1 Z) (hT: ∀w1,Kept F w w1->fA w1) (LD:keys<=16) (hsm:sums<=16) (Ws: ∀z∈Z,iM z.2.2.key)
    (hf: ∀z∈Z,fits z.2.2.w/\∀c∈z.2.2.vals,fits c.n) (hn:Z.length<=100) (hE:yX sums E=true):
    aN prog 394 [aA bg,v] w λu w'=>∃x:Value×List Held,u=.tuple #[x.1,I (Ak keys sums E (Z.map (·.2.2))).2]/\x.2.map (·.2)=(Ak keys sums E (Z.map (·.2.2))).1/\
      Turn F (star (dR x.1 x.2) (star (blk bg (uF keys sums bh) 150) (JK bh sums (if(Ak keys sums E (Z.map (·.2.2))).2=0 then E++Z.map (·.2.2)else E)))) w w':=by
  have G1:=(Sep.dZ hp).dG;obtain⟨L0,hS,H⟩:=R7 G1.aJ;obtain⟨gl,V9⟩: ∃gl,gl=Z.map (λz=>z.2.2):=⟨_,rfl⟩;rw[<-V9]
  have Fy: ∀x∈gl,fits x.w/\∀c∈x.vals,fits c.n:=λx hx=>by
    rw[V9]at hx;obtain⟨z,hz,rfl⟩:=zaq.1 hx;exact hf z hz
  have hgn:gl.length<=100:=by rw[V9,zae];exact hn
  obtain⟨A,m,rfl,⟨hm,qo⟩,_⟩:=hv w (Kept.refl _ _);refine dS func394 rfl rfl rfl rfl ?_;refine Sr (dz H (cs:=[aA bg]) rfl (h:=λb2 w2 H2 k1=>?_));refine Zb3 ?_;refine aF H2 (OE (H2.obj At3)) (h:=λw7 H7 k6=>?_);refine Qn (Cd rfl (λy8=>?_) (λy8=>?_))
  . exact Bool.noConfusion y8
  refine Zb2 ?_;refine aF H7 (ad6 (Z:=Z) (H7.obj At3) (H7.obj At0) (hZ _ H7.kept) (hv _ H7.kept)) (h:=λwa Ha ka=>?_);refine Qn (Cd rfl (λIa=>?_) (λIa=>?_))
  . have sN:(gl.all λx=>xB keys sums x)=false:=by
      have hc:(Z.any λz=> !xB keys sums z.2.2)=true:=by simpa using Ia
      rw[V9,List.all_map];rw[List.any_eq_not_all_not]at hc;simpa[Function.comp_def]using hc
    have Qs:Ak keys sums E gl=([],2):=by unfold Ak;rw[zac sN]
    refine Zb2 ?_;exact⟨(.slice none 0 0,[]),by rw[Qs];rfl,by rw[Qs];rfl,by
    rw[Qs,zab dC];exact(Sep.ny (fK (AB Ha.eF hS).aJ.bI) 82 2).bI.bI.turn⟩
  have J8:(gl.all λx=>xB keys sums x)=true:=by
    have hc:(Z.any λz=> !xB keys sums z.2.2)=false:=by simpa using Ia
    rw[V9,List.all_map];rw[List.any_eq_not_all_not]at hc;simpa[Function.comp_def]using hc
  have hmz: ∀z∈Z,z.2.2.key.length=keys/\z.2.2.vals.length=sums:=λz hz=>by
    have:=zaz.1 J8 z.2.2 (by rw[V9];exact zeb hz);unfold xB at this;rw[zbv,decide_eq_true_iff]at this;exact this.1
  have hkl: ∀k∈mH gl,k.length<=16:=λk hk=>by
    obtain⟨x,hx,e⟩:=(Eu gl).1 hk;rw[V9]at hx;obtain⟨z,hz,rfl⟩:=zaq.1 hx;have:=(hmz z hz).1;rw[<-e];omega
  refine Zb0 ?_;refine yA Ha (h:=λbn wb Hb kb=>?_);have Hb:=Sep.Vk Hb At0;refine Zb4 ?_;obtain⟨F0,uI,iK,Uq,aQ⟩:=Sep.BM (Hb.fF.bN.bI) At2;have CP: ∀w1,Kept F0 _ w1->Kept F w w1:=λw1 h1=>Mw.Kept.into Hb.kept iK h1;have Gf: ∀w1,Kept F0 _ w1->iQ w1 L0:=λw1 h1=>by obtain⟨Fq,F1,F2,_,_,h2,_⟩:=Uq w1 h1;exact tL h2
  refine aS (aaF (bg:=bg) (keys:=keys) (sums:=sums) (bh:=bh) (E:=E) (λw1 h1=>by obtain⟨Fq,F1,F2,_,_,_,h2⟩:=Uq w1 h1;exact h2.2) (λw1 h1=>hv w1 (CP w1 h1)) (λw1 h1=>hZ w1 (CP w1 h1)) (λw1 h1=>hT w1 (CP w1 h1)) hsm (λz hz=>⟨by rw[(hmz z hz).1];exact LD,Ws z hz⟩) (λz hz=>(hmz z hz).2) hf oM
    (λz hz=>by
      obtain⟨rD,nv0,k0,ns0,e1,e2,_,e4,e5,e6,_⟩:=Tc hS (Ws z hz) hE;exact⟨rD,nv0,ns0,e1,λw1 h1=>(e2 w1 (Gf w1 h1)).2,e4,e5,e6⟩) uI) rfl rfl (λv' wc Kh=>?_)
  obtain⟨bm,D,C,rfl,hC,jH,F1,jA,jO⟩:=Kh;rw[<-V9]at hC;have Hc:=aQ _ F1 (lC (iX bm D::iX bh (L0.map je)::C.map OI)) jH jA jO;have Hc:Mw.Sep w F (star (iX bm D) (star (iX bh (L0.map je)) (lC (C.map OI)))::star (iC λw=>iQ w L0) (blk bg (uF keys sums bh) 150)::iX bn []::blk b2 [aA bg] 107::[]) _:=Hc.bN;have Hc:=Sep.look (X:=λw=>JI w C) (Hc.dG.aJ.dG.aJ) At0 (λF w h=>X8 h);have Hc:=Sep.rH (Z:=λw=>iQ w ([]:List iD)/\JI w C/\iQ w L0) (Hc.bN.dG.bF) (λw h1 h2=>⟨λs hs=>zat hs zaj,h1,h2⟩);have Hc:Mw.Sep w F [blk b2 [aA bg] 107,blk bg (uF keys sums bh) 150,iX bm D,iX bn [],iX bh (L0.map je),iC λw=>iQ w ([]:List iD)/\JI w C/\iQ w L0] _:=Hc.bF.fF.fF.fF.mX;refine KS Hc At2 (h:=?_);intro q wd Hd;refine Zb0 ?_;have ash:=Oo gl;refine aP (λx:aqr=>[(2,aA b2),(6,.map (some bn)),(7,x.xv),(28,aA q)]) (λx w'=>OP sums E gl C x.Ln x.Lf x.LI/\Mw.Sep w F [blk b2 [aA bg] 107,blk bg (uF keys sums bh) 150,dR x.xv x.LI,yD q bm D x.Lf,iX bn (x.Ln.map je),iX bh (L0.map je),iC λw=>iQ w x.Ln/\JI w C/\iQ w L0] w') (λx _=>x.Lf.length) ⟨.slice none 0 0,[],[],D⟩ tR ⟨OP.start hC,(Sep.ny (fK Hd) 82 2).bI.bF.bF⟩ (λx τ we hI=>?_);obtain⟨xv,LI,Ln,Lf⟩:=x;obtain⟨hJ,He⟩:=hI;dsimp only at hJ He
  try simp only[dA,like,bB,bY]
  refine Sr (OL He At3 (h1:=λp Lf' wf akP Hf=>?_) (h2:=λakP=>?_))
  . obtain⟨⟨bc,kv,sv,key,ns⟩,hcC,rfl,fq,Uo,Cn,Bh⟩:=hJ.step hC ash hkl akP
    have hLt:Lf'.length<Lf.length:=by have:=(akP).length_eq;simp only[zal]at this;omega
    dsimp only at fq Uo Cn Bh;have hcg:JI _ C:=(Sep.sees Hf At6).2.1;have asi:aM _ kv aj 3 key:=(hcg _ hcC).2.1;have asj:aM _ sv dV 3 ns:=(hcg _ hcC).2.2;obtain⟨K,ck,rfl,_,_⟩:=asi;obtain⟨V,cv,rfl,_,_⟩:=asj;have hnl:ns.length=sums+1:=by rw[Uo,pQ]
    obtain⟨rD,nv0,k0,ns0,hz1,hz2,hz3,hz4,hz5,hz6,hz7⟩:=Tc hS Cn.1 hE
    have asl:LI.length<=200:=by
      have h1:=zaw List.length hJ.its;rw[zae]at h1;have h2:=Ta (Ln.map (·.2.2.1)) (gL sums E) (gL sums (E++gl))
      have h3:(Ln.map (·.2.2.1)).length<=(mH gl).length:=by
        obtain⟨Cl,_,_,h4⟩:=hJ.rest;have h5:=h4.length_eq;have h6:=hC.keys.length_eq;rw[zad]at h5;omega
      have h7:=R9 gl;omega
    refine Zb1 ?_;refine Vv (Gives.aaB Hf At3 rfl) ?_;have Hg:=Sep.Vr Hf At3;refine Zb7 ?_;refine ig ((Sep.sees Hg At6).2.1 _ hcC).1 (h:=?_);refine Vb [.slice K key.length ck,.slice none 0 0] ?_;refine aW Hg (h:=λb10 wg Hh kc=>?_);refine au Hh (h:=λwh Hi=>?_);refine Zb3 ?_;refine ig ((Sep.sees Hi At7).2.1 _ hcC).1 (h:=?_);refine Zb2 ?_;refine aP (λx:(OA×Nat)×Nat=>[(2,aA b2),(6,.map (some bn)),(7,xv),(8,str (gB key)),(10,aA b10),(28,aA q),(42,.slice V ns.length cv),(43,I ns.length),(44,I x.2)]) (λx w'=>(x.2<=ns.length/\∀n∈ns.take x.2,gU n=true)/\Mw.Sep w F [blk b10 [.slice K key.length ck,.slice x.1.1 (ns.take x.2).length x.1.2] 440,bW 2 1 CG (.slice x.1.1 (ns.take x.2).length x.1.2) (ns.take x.2),blk b2 [aA bg] 107,blk bg (uF keys sums bh) 150,dR xv LI,yD q bm D Lf',iX bn (Ln.map je),iX bh (L0.map je),iC λw=>iQ w Ln/\JI w C/\iQ w L0] w') (λx _=>ns.length-x.2) ((none,0),0) tR ⟨⟨zak _,λn hn=>zat hn zaj⟩,(Sep.lZ Hi 2 1 CG).aJ⟩ (λx τ wi hI=>?_);obtain⟨⟨X,cX⟩,j⟩:=x;obtain⟨⟨hj,hfj⟩,Hj⟩:=hI;dsimp only at hj hfj Hj;have hjl:(ns.take j).length=j:=by rw[zag];omega
    try simp only[dA,like,bB]
    refine Za1 ?_;refine Qn (fC (Cp rfl (λIb=>?_) (λIb=>?_)))
    . have bX:j<ns.length:=oM
      obtain⟨nj,hnj⟩:=get_some bX;have hbn:=aaI hE Fy oM (show nj∈gL sums (E++gl) key by rw[<-Uo];exact zao hnj);have ZM:ns.take j++[nj]=ns.take (j+1):=by rw[zav,hnj];rfl
      refine Zb0 ?_;refine Vv (Gives.mK rfl rfl (cO ((Sep.sees Hj At8).2.1 _ hcC).2.2) bX) (Vv (Gives.jQ rfl (Sep.aL _) (cO ((Sep.sees Hj At8).2.1 _ hcC).2.2) hnj) ?_);refine aW Hj (h:=λb12 wj Hk kd=>?_);refine au Hk (h:=λwk Hl=>?_);refine Nx (iA Hl (cs:=dV nj) (h:=?_));refine aF Hl (U1 nj hbn.1 hbn.2) (h:=λwl Hm ke=>?_);obtain⟨n1,Kl⟩: ∃n1:Int,n1=if gU nj=true then nj else 0:=⟨_,rfl⟩
      obtain⟨e1,Um⟩: ∃e1:Int,e1=if gU nj=true then 0 else 50:=⟨_,rfl⟩
      rw[<-Kl,<-Um];refine Za7 ?_;refine Qn (Cp rfl (λIc=>?_) (λIc=>?_))
      . have hnf:gU nj≠true:=λh=>Ic (by rw[Um,zac h])
        rw[zab hnf]at Um;have Qs:Ak keys sums E gl=([],50):=aeg J8 (show nj∈gL sums (E++gl) key by rw[<-Uo];exact zao hnj) hnf;refine Zb3 ?_;subst Um
        exact⟨(.slice none 0 0,[]),by rw[Qs];rfl,by rw[Qs];rfl,by
          rw[Qs,zab dC];have h1:=Sep.tN (Y:=λw=>iQ w L0) Hm At9 (λw h=>h.2.2);exact(Sep.ny (fK (AB h1.fF.VJ.sH hS).aJ.bI.first) 82 2).bI.bI.turn⟩
      have he0:e1=0:=Decidable.of_not_not Ic
      have hnf:gU nj=true:=by
        cases h:gU nj with
        | true=>rfl
        | false=>rw[h,zab dC]at Um;omega
      rw[zac hnf]at Kl;subst Kl;refine Zb3 ?_;refine Bs Hm ([n1].flatMap CG) (λbs wm Hn kf=>?_);refine gP Hn (news:=[n1]) At2 (by unfold maxLen;simp only[zan];omega) (by simp only[zan];omega) (cells_one (λ_=>rfl) _) (h:=?_);intro v60 wn Ho;rw[ZM]at Ho;obtain⟨X2,cX2,rfl,_,_⟩:=Sep.eO Ho At2;refine Vf ?_;refine bM Ho (h:=λwo Hp=>?_);refine Zb0 ?_;refine Vc ((j+1:Nat):Int) ?_;refine Zb1 ?_;exact ak ((X2,cX2),j+1) tR ⟨⟨dO,λn hn=>by
      dsimp only at hn;rw[<-ZM]at hn
      rcases zbh.1 hn with hn | hn
      . exact hfj n hn
      rw[zay]at hn;rw[hn];exact hnf⟩,Hp.eF⟩ dO
    have MQ:j=ns.length:=oM;rw[MQ,zbl]at hfj Hj;refine Zb2 ?_;refine iA Hj (cs:=[.slice K key.length ck,.slice X ns.length cX]) (h:=?_);refine FJ (i:=gB key) (v:=agg [.slice K key.length ck,.slice X ns.length cX]) Hj At6 (h:=λwp Hq=>?_);rw[aeb (s:=(.slice K key.length ck,.slice X ns.length cX,key,ns)) (λs hs=>(hJ.nums s hs).2.2.1) Cn.1 fq]at Hq;have hrk: ∀wx,JI wx C->aM wx (.slice K key.length ck) aj 3 key:=λwx h=>(h _ hcC).2.1;refine Qn (Ds (λSa wq Hr=>?_));refine Zb6 ?_;refine FGl Sa 6 (v:=agg [rD,nv0]) rfl rfl (by rw[<-hz1];exact pR (i:=gB key) Hr At7 rfl rfl) kR ?_;refine nC Sa 9 Hr (h:=?_);refine dL Sa 7 [(9,false),(0,true)] Hr (Vi (-1) (hz2 _ (by first | exact(Sep.sees Hr At8).2.2 | exact(Sep.sees Hr At9).2.2)).1 (hz2 _ (by first | exact(Sep.sees Hr At8).2.2 | exact(Sep.sees Hr At9).2.2)).2 oM oM) (h:=λy wr hy Hs kg=>?_);obtain⟨yv,Ly⟩:=y;dsimp only at hy Hs
    have hyl:Ly.length<=1:=by
      have h1:=zaw List.length hy;rw[zae]at h1;have h2:=xL ns0 k0 (-1);omega
    refine⟨aO Hs (h:=ah (aK)),?_⟩;refine AA Sa 8 [(9,false)] (Hs.mX.aJ) oM (h:=λv74 ws Ht=>⟨aO Ht (h:=aK),?_⟩);refine dL Sa 10 _ Ht (Vi 1 (hrk _ (by first | exact(Sep.sees Ht At8).2.1 | exact(Sep.sees Ht At9).2.1)) (by first | exact lu Ht At2 | exact lu Ht At1) oM oM) (h:=λz wt hz Hu kh=>?_);obtain⟨zv,Lz⟩:=z;dsimp only at hz Hu
    have hzl:Lz.length<=1:=by
      have h1:=zaw List.length hz;rw[zae]at h1;have h2:=xL ns key 1;omega
    refine⟨sT,?_⟩
    first | refine AA Sa 11 _ Hu (by rw[zad];omega) (h:=λv77 wu Hv=>⟨sT,?_⟩) | refine AA Sa 11 _ (Hu.aJ) (by rw[zad];omega) (h:=λv77 wu Hv=>⟨sT,?_⟩)
    refine yP Sa 12 _ (h:=⟨sT,?_⟩);refine Zb0 ?_;have h1:=iL (Hv.aJ.eF) At1;have h2:=Sep.rH (Z:=λw=>iQ w (Ln++[((.slice K key.length ck,.slice X ns.length cX,key,ns):iD)])/\JI w C/\iQ w L0) (h1.yL.bF) (λw g1 g2=>⟨g2.1.push (s:=(.slice K key.length ck,.slice X ns.length cX,key,ns)) (hrk _ g2.2.1) g1 Cn.1,g2.2⟩)
    exact ak ⟨v77,LI++Ly++Lz,Ln++[(.slice K key.length ck,.slice X ns.length cX,key,ns)],Lf'⟩ tR ⟨by
      dsimp only;rw[zbs];exact Bh _ _ (Ly++Lz) (by rw[zam,hy,hz,hz7,<-Uo]) hfj,h2.mM.mM.mM.fF.mM.mM⟩ hLt
  subst akP;obtain⟨atK,Qs⟩:=hJ.fine hC J8 hE;have uG:=hJ.keys hC
  have asl:LI.length<=200:=by
    have h1:=zaw List.length hJ.its;rw[zae]at h1;have h2:=Ta (Ln.map (·.2.2.1)) (gL sums E) (gL sums (E++gl));have h3:=uG.length_eq;have h7:=R9 gl;omega
  refine Zb2 ?_
  have aiW: ∀o∈LI.map (·.2),fits o.w/\o.row.length<=1000:=λo ho=>by
    rw[hJ.its]at ho;obtain⟨k,hk,h1,h2⟩:=aeh ho;have h3:=hkl k (uG.mem_iff.1 hk);have h4:=pQ (sums:=sums) (E:=E) (k:=k);have h5:=pQ (sums:=sums) (E:=E++gl) (k:=k);refine⟨by unfold fits;omega,?_⟩
    rcases h1 with h1 | h1<;>rw[h1,zad,zae]<;>omega
  refine dx He (Dl (dn He At2) (by rw[zae];omega) (λo ho=>(aiW o ho).1) (λo ho=>(aiW o ho).2)) (h:=λy wv hy Hw ki=>?_);obtain⟨yv,Ly⟩:=y;rw[<-Qs];rw[<-Qs]at hy;dsimp only at hy Hw ⊢;refine Za7 ?_;refine Qn (Cp rfl (λId=>?_) (λId=>?_))
  . have Ie:=Id
    have hb:(Ak keys sums E gl).1=[]:=by
      have h1:=Id;rw[Qs]at h1 ⊢;rw[nK h1]
    refine Zb3 ?_;exact⟨(.slice none 0 0,[]),rfl,by rw[hb];rfl,by
    rw[zab Ie];have h1:=Sep.tN (Y:=λw=>iQ w L0) Hw At7 (λw h=>h.2.2);exact(Sep.ny (fK (AB h1.bF.mM.yL hS).aJ.bI.first) 82 2).bI.bI.turn⟩
  have he0:(Ak keys sums E gl).2=0:=Decidable.of_not_not Id;refine Zb1 ?_;refine KS Hw At5 (h:=?_);intro q2 ww Hx;have Hx:=Sep.tN (Y:=λw=>iQ w (Ln++L0)) (Hx.fF.eF.bN.eF) At5 (λw h=>h.1.app h.2.2);refine Zb0 ?_;refine aP (λx:aqs=>[(2,aA b2),(15,yv),(87,aA q2)]) (λx w'=>QO sums E gl L0 Ln x.L x.Lf x.done/\Mw.Sep w F [blk b2 [aA bg] 107,blk bg (uF keys sums bh) 150,dR yv Ly,yD q2 bn (Ln.map je) x.Lf,iX bh (x.L.map je),iC λw=>iQ w (Ln++L0)] w') (λx _=>x.Lf.length) ⟨L0,Ln.map je,[]⟩ tR ⟨QO.start hS,Hx.bF.bF⟩ (λx τ wy hI=>?_);obtain⟨L,Lf,done⟩:=x;obtain⟨hQ,Hy⟩:=hI;dsimp only at hQ Hy
  try simp only[dA,like,bB]
  refine Sr (OL Hy At3 (h1:=λp Lf' wz ac8 Hz=>?_) (h2:=λac8=>?_))
  . obtain⟨⟨kv,nv,key,ns⟩,Qt,rfl,hqy,hqn⟩:=hQ.step (λs hs=>⟨(hJ.nums s hs).1,(hJ.nums s hs).2.2⟩) ac8
    have hLt:Lf'.length<Lf.length:=by have:=(ac8).length_eq;simp only[zal]at this;omega
    have Cn:=(hJ.nums _ Qt).2.2;dsimp only at hqy hqn Cn;have aly:aM _ kv aj 3 key/\aM _ nv CG 1 ns:=(Sep.sees Hz At5 _ (zcg _ Qt)).1;obtain⟨K,ck,rfl,_,_⟩:=aly.1;obtain⟨X,cX,rfl,_,_⟩:=aly.2;have uI: ∀t∈zw L (.slice K key.length ck,.slice X ns.length cX,key,ns),iM t.2.2.1:=(hQ.held.put (s:=(.slice K key.length ck,.slice X ns.length cX,key,ns)) Cn).fits;refine Zb1 ?_;refine Vv (Gives.aaB Hz At3 rfl) ?_;have HA:=Sep.Vr Hz At3;refine Zb2 ?_;refine aW HA (h:=λb18 wD HB kj=>?_);refine Am ?_;refine au HB (h:=λwE HC=>?_);refine Zb0 ?_;refine Ds (λSb wF HD=>?_);refine Zb6 ?_;refine Vy Sb 6 _ (i:=gB key) (v:=agg [.slice K key.length ck,.slice X ns.length cX]) HD At5 (h:=λwG HE=>⟨sT,?_⟩);rw[R6 (s:=(.slice K key.length ck,.slice X ns.length cX,key,ns)) hQ.held.fits Cn.1]at HE;refine Zb2 ?_;have hnr:aM _ (.slice X ns.length cX) CG 1 ns:=(Sep.sees HE At6 _ (zcg _ Qt)).1.2;refine aF HE (XV (p:=λn=>decide (n≠0)) (fv:=.func (.func 402) #[] #[]) hnr ⟨402,[],[],rfl,inferInstance,λx _ w' _=>aei x⟩) (h:=λwH HF kk=>?_);refine Vv (Gives.not rfl) (Qn ?_);refine Cd rfl (λIf=>?_) (λIf=>?_)
    . have aiX:(ns.any λn=>decide (n≠0))=false:=by simpa using If
      refine Zb5 ?_;refine aaH (i:=gB key) HF At5 (h:=λwI HG=>?_);rw[aec uI Cn.1]at HG;refine Zb0 ?_;exact ak ⟨R4 (zw L (.slice K key.length ck,.slice X ns.length cX,key,ns)) key,Lf',key::done⟩ tR ⟨hqn aiX,HG.eF⟩ hLt
    have aiX:(ns.any λn=>decide (n≠0))=true:=by simpa using If
    refine Zb0 ?_;exact ak ⟨zw L (.slice K key.length ck,.slice X ns.length cX,key,ns),Lf',key::done⟩ tR ⟨hqy aiX,HF.eF⟩ hLt
  subst ac8;have iq:=hQ.end_ (λk hk=>uG.mem_iff.2 hk);refine Zb4 ?_;exact⟨(yv,Ly),by rw[he0];rfl,hy,by
  rw[zac he0];have h1:=Sep.tN (Y:=λw=>iQ w L) Hy At5 (λw h=>h.sub λs hs=>(hQ.from_ s hs).elim (zcg _) (zch _));exact((AB h1.bF.bF.fF.mX iq).aJ.bI.aJ.bI.first).turn⟩
end
theorem BO.push {w:Wd} {G:List aaG} {g:aaG} (h:BO w G) (h1:aM w g.1 aj 3 g.2.2.1) (h2:aM w g.2.1 CG 1 (g.2.2.2.drop 1)):BO w (G++[g]):=λx hx=>by
 rcases zbh.1 hx with hx | hx
 .exact h x hx
 rw[zay]at hx;subst hx;exact⟨h1,h2⟩
theorem BO.set {w:Wd} {G:List aaG} {g:aaG} (j:Nat) (h:BO w G) (h1:aM w g.1 aj 3 g.2.2.1) (h2:aM w g.2.1 CG 1 (g.2.2.2.drop 1)):BO w (G.set j g):=λx hx=>by
 rcases List.mem_or_eq_of_mem_set hx with hx | hx
 .exact h x hx
 subst hx;exact⟨h1,h2⟩
section
variable {w:Wd} {F:NP}
end
end Go.Proofs.YtkfpleidaoaonaaGreatDoor
namespace Go.Mw
open Go.RowKit
section
variable {P:Program} {r:Option Nat} {n:Nat} {ops:AO} {Q:Post} {rest:LO} {σ:St} {w w0:Wd} {S:NP} {rs:List HP} {ty:Td} {pos:String} {after:Array Edge}
theorem aej {α:Type} {g:Od} {p:Tmp} {assign body:Code} {gf:FuncId} {lb:LV} [he:bC P gf] (enc:α->Value) (φ ψ:List α->Prop) (J:List α->HP) (Fr0 Fr1:List HP) (H:Sep w0 S (J []::Fr0) w)
    (hg:evF σ g=.func (.func gf) #[] lb.toArray) (hp:Nat.blt p n=true)
    (aiE: ∀(l D:Nat) (ro rb:Obj) (pre:List α) (x:α) (Fr:List HP) (W:Wd),φ (pre++[x])->Sep w0 S (obj l ro::obj D (.deferred (some []))::J pre::Fr) W->
      FW P (some l) n assign (Nt λτ W'=>∃ex:List HP,Sep w0 S (obj l ro::obj D (.deferred (some []))::(ex++J pre::Fr)) W'/\
        ∀W'',Sep w0 S (obj l rb::obj D (.deferred (some []))::(ex++J pre::Fr)) W''->FW P (some l) n body (Nt λ_ W3=>Sep w0 S (obj l rb::obj D (.deferred (some []))::J (pre++[x])::Fr) W3) τ W'') (upd ⟨σ.get,[]⟩ p (enc x)) W)
    (aiF: ∀(l D:Nat) (ro:Obj) (W:Wd),Sep w0 S (obj l ro::obj D (.deferred (some []))::J []::Fr0) W->
      (∀(pre:List α) (x:α) (Fr:List HP) (W:Wd),φ (pre++[x])->Sep w0 S (obj l ro::obj D (.deferred (some []))::J pre::Fr) W->Vg P l [enc x] W λW'=>Sep w0 S (obj l ro::obj D (.deferred (some []))::J (pre++[x])::Fr) W')->
      aN P gf (.func (.yield l) #[] #[]::lb) W λ_ W'=>∃xs,ψ xs/\Sep w0 S (obj l ro::obj D (.deferred (some []))::J xs::Fr1) W')
    (Zx: ∀(D:Nat) (W:Wd) (xs:List α),ψ xs->Sep w0 S (obj D (.deferred (some []))::J xs::Fr1) W->Q .normal ⟨σ.get,{target:=.collected D,args:= #[]}::σ.ds⟩ W):
    FW P none n (.rangeFunc g #[p] assign body) Q σ w:=by
  intro a ha;refine wpIn_rangeFunc λfn Zl=>?_
  let rec_:LoopState->Obj:=λst=>acy st fn a.tmps #[p] assign body w.heap.size
  obtain⟨W1,hW1⟩: ∃W1,(w.alloc (.deferred (some []))).alloc (rec_ .ready)=W1:=⟨_,rfl⟩
  have H1:Sep w0 S (obj (w.heap.size+1) (rec_ .ready)::obj w.heap.size (.deferred (some []))::J []::Fr0) W1:=by
    have h1:=(H.alloc (.deferred (some []))).alloc (rec_ .ready);rw[World.size_alloc]at h1;rw[<-hW1];exact h1
  refine⟨w.heap.size+1,[{target:=.collected w.heap.size,args:= #[]}],W1,{target:=.fn (.func gf) lb.toArray,args:= #[.func (.yield (w.heap.size+1)) #[] #[]]},W1,gf,
    #[.func (.yield (w.heap.size+1)) #[] #[]]++lb.toArray,W1,?_,?_,λ_ _=>trivial,?_,(λh=>by cases h),?_⟩
  . rw[<-hW1];exact run_enterLoop_outer _ _ _ _ _
  . rw[ha.eval]
    have e1:(rangeCall g (w.heap.size+1)).callee=.value g:=rfl;simp only[resolve,hg,Deferred.ofValue];simp[evF]
  . simp[invoke,he.run]
  have amL:=aiF (w.heap.size+1) w.heap.size (rec_ .ready) W1 H1 (λpre x Fr W mF HW=>?_)
  . have e:(#[.func (.yield (w.heap.size+1)) #[] #[]]++lb.toArray:Array Value)=(Value.func (.yield (w.heap.size+1)) #[] #[]::lb).toArray:=sM
    rw[e];refine uJ none (Calls.mono amL λen W3 hr=>?_);cases en with
    | returned v=>
      obtain⟨xs,hψ,hr⟩:=hr;have hl:=Sep.obj hr At0;refine⟨none,_,run_endLoop hl sM,?_⟩;refine⟨⟨σ.get,{target:=.collected w.heap.size,args:= #[]}::σ.ds⟩,⟨ha.size,?_,ha.get⟩,Zx w.heap.size _ xs hψ ?_⟩
      . show [_]++a.defers=_
        rw[ha.defers];rfl
      exact(Sep.XZ hr).eF
    | _=>exact hr.elim

  have hl:=Sep.obj HW At0;refine⟨fn,_,assign,body,run_yield hl sM,?_⟩;refine roundIn_of_wpIn (F:=fen none) trivial ?_;have hb:=aiE (w.heap.size+1) w.heap.size (rec_ .ready) (rec_ .busy) pre x Fr W mF HW
  have ha':Rep n (upd ⟨σ.get,[]⟩ p (enc x)) {tmps:=((#[p].zip [enc x].toArray).foldl (λtmps (t,a)=>tmps.setIfInBounds t a) a.tmps),defers:=[]}:=by
    have h0:Rep n ⟨σ.get,[]⟩ {tmps:=a.tmps,defers:=[]}:=⟨ha.size,rfl,ha.get⟩;have h1:=h0.put (zbc hp) (enc x);simpa[Act.put]using h1
  refine Go.wpIn_mono (hb _ ha') λen a1 W1' ⟨τ,hτ,hq⟩=>?_;cases en with
  | normal=>
    obtain⟨ex,HW1,hB⟩:=hq;have hl1:=Sep.obj HW1 At0;refine⟨_,run_beginRound hl1 rfl,?_⟩;refine Go.wpIn_mono (hB _ (Sep.XZ HW1) a1 hτ) λen a2 W2 ⟨τ2,hτ2,tC⟩=>?_;cases en with
    | normal=>
      have hl2:=Sep.obj (show Sep w0 S _ W2 from tC) At0;exact⟨_,_,run_endRound none hl2,rfl,Sep.XZ tC⟩
    | _=>exact tC.elim
  | _=>exact hq.elim
end
end Go.Mw
namespace Go.Proofs.YtkfpleidaoaonaaGreatDoor
open Go Go.Mw Go.Lib Tryz
set_option maxRecDepth 4000
attribute [local irreducible] FW FL FG FGn gu gy dh gH Qfn Gives
def ak7 (s:iD):Value:=agg [s.1,s.2.1]
def Dr (L:List iD):List aH:=L.flatMap λs=>j6 s.2.2.2 s.2.2.1 1
theorem aaJ (L:List iD) (s:iD):Dr (L++[s])=Dr L++j6 s.2.2.2 s.2.2.1 1:=by unfold Dr;rw[zcd];simp
theorem KV: ∀L:List iD,(Dr L).length<=L.length
 | []=>zbf _
 | s::L=>by
  have h1:=KV L;have h2:=xL s.2.2.2 s.2.2.1 1;unfold Dr at h1 ⊢;rw[zbg,zad,zal];omega
def ak8 (b3:Nat) (L pre:List iD):HP:=exH λz:Value×List Held=>star (jI (z.2.map (·.2)=Dr pre)) (star (blk b3 [z.1] 27) (star (dR z.1 z.2) (iC λw=>iQ w L)))
theorem Te {α:Type} [DecidableEq α]: ∀{a b:List α},a.Nodup->a⊆b->a.length<=b.length
 | [],_,_,_=>zak _
 | x::a,b,hn,hs=>by
  rw[zet]at hn;have hx:x∈b:=hs zah
  have h1:a⊆b.erase x:=λy hy=>by
   have iF:y≠x:=λe=>hn.1 (by rw[<-e];exact hy);exact(List.mem_erase_of_ne iF).2 (hs (zai _ hy))
  have h2:=Te hn.2 h1;rw[List.length_erase_of_mem hx]at h2;have h3:=List.length_pos_of_mem hx;rw[zal];omega
theorem ag2 {sums:Nat} {E:List dH} {L:List iD} (h:oK (stE sums E) L):L.length<=E.length:=by
 have h1:L.map (·.2.2.1)⊆E.map (·.key):=λk hk=>by
  obtain⟨s,hs,rfl⟩:=zaq.1 hk;have h2:=h.is s hs;refine Classical.byContradiction λhm=>?_;have h3: ∀i,lH E s.2.2.1 i=0:=λi=>Df λx hx e=>hm (zaq.2 ⟨x,hx,e⟩)
  have h4:stE sums E s.2.2.1=none:=by
   unfold stE;rw[zab];simp only[gL,h3];simp;exact λx _=>h3 x
  rw[h4]at h2;cases h2
 have h5:=Te h.nd h1;rw[zae,zae]at h5;exact h5
theorem aaK {keys sums:Nat} {E:List dH} {L xs:List iD} (h:oK (stE sums E) L) (hE: ∀x∈E,x.key.length=keys) (hp:xs.Perm L):dY (Dr xs)=(lI sums E,0):=by
 have e:Dr xs=(xs.map (·.2.2.1)).flatMap λk=>aco (stE sums E k) k 1:=by
  unfold Dr;rw[List.flatMap_map,List.flatMap_def,List.flatMap_def]
  congr 1
  refine zco λs hs=>?_;rw[h.is s (hp.mem_iff.1 hs)];rfl
 rw[e];exact adM hE ((hp.map _).symm.nodup h.nd) λk hk=>(hp.map _).mem_iff.2 (h.all k hk)
section
variable {w:Wd} {F:NP}
theorem aek (bh:Nat):aN prog 403 [.map (some bh)] w λv w'=>∃b1:Nat,v=.func (.func 411) #[] #[aA b1]/\True/\Turn noB (blk b1 [.map (some bh)] 148) w w':=by
 have H:=Sep.aL w;refine eP func403 rfl rfl rfl rfl ?_;refine Sr (dz H (cs:=[.map (some bh)]) rfl (h:=λb1 w2 H2 k1=>?_));refine Zb3 ?_;exact⟨b1,rfl,trivial,H2.turn⟩
theorem aaL {w0:Wd} {S:NP} {l Dd bh b1:Nat} {ro:Obj} {J:List iD->HP} {Fr:List HP} {L:List iD} {E1:Td} (rA: ∀s∈L,s.1.oneCell'=true/\s.2.1.oneCell'=true)
    (H:Mw.Sep w0 S (Mw.obj l ro::Mw.obj Dd (.deferred (some []))::J []::blk b1 [.map (some bh)] E1::iX bh (L.map je)::Fr) w)
    (hy: ∀(pre:List iD) (x:iD) (Fr:List HP) (W:Wd),(∃r,(pre++[x]++r).Perm L)->Mw.Sep w0 S (Mw.obj l ro::Mw.obj Dd (.deferred (some []))::J pre::Fr) W->Vg prog l [ak7 x] W λW'=>Mw.Sep w0 S (Mw.obj l ro::Mw.obj Dd (.deferred (some []))::J (pre++[x])::Fr) W'):
    aN prog 411 [.func (.yield l) #[] #[],aA b1] w λ_ w'=>∃xs:List iD,xs.Perm L/\Mw.Sep w0 S (Mw.obj l ro::Mw.obj Dd (.deferred (some []))::J xs::iX bh (L.map je)::Fr) w':=by
  refine dS func411 rfl rfl rfl rfl ?_;refine Zb1 ?_;refine KS H At4 (h:=?_);intro q w3 H3;refine Zb0 ?_;refine aP (λx:List iD×List Ent=>[(0,.func (.yield l) #[] #[]),(1,aA b1),(6,aA q)]) (λx w'=>(∃r,(x.1++r).Perm L/\x.2.Perm (r.map je))/\Mw.Sep w0 S (Mw.obj l ro::Mw.obj Dd (.deferred (some []))::J x.1::blk b1 [.map (some bh)] E1::yD q bh (L.map je) x.2::Fr) w') (λx _=>x.2.length) ([],L.map je) tR ⟨⟨L,List.Perm.refl _,List.Perm.refl _⟩,H3⟩ (λx τ w5 hI=>?_);obtain⟨pre,Lf⟩:=x;obtain⟨⟨r,Zn,V7⟩,H5⟩:=hI;dsimp only at Zn V7 H5
  try simp only[dA,like,bB,bY]
  refine Sr (OL H5 At4 (h1:=λp Lf' w8 hn6 H8=>?_) (h2:=λhn6=>?_))
  . have hLt:Lf'.length<Lf.length:=by have:=(hn6).length_eq;simp only[zal]at this;omega
    obtain⟨s,r',hq,rfl,hL⟩:=KU ((hn6).symm.trans V7)
    have Fb:(pre++[s]++r').Perm L:=by
      rw[zbs];exact(List.Perm.append_left pre hq.symm).trans Zn
    have hsL:s∈L:=Fb.mem_iff.1 (zcg _ (zch _ (zay.2 rfl)));obtain⟨kv,nv,key,ns⟩:=s;obtain⟨ho1,ho2⟩:=rA _ hsL;dsimp only at ho1 ho2;refine Zb1 ?_;refine Vv (Gives.aaB H8 At4 rfl) ?_;have Ha:=Sep.Vr H8 At4;refine Vx ?_;refine aW Ha (h:=λb4 wa Hb ka=>?_);refine au Hb (us:=[kv,nv]) (hv:=by simp[ho1,ho2]) (h:=λwb Hc=>?_);refine Zb1 ?_;refine iA Hc (cs:=[kv,nv]) (h:=?_);refine agR rfl (hy pre (kv,nv,key,ns) _ _ ⟨r',Fb⟩ (Hc.eF)) rfl rfl (λwc Hd=>?_);refine Za1 ?_;refine Qn (Cd rfl (λIa=>?_) (λIa=>?_))
    . exact zat Ia dC
    refine Zb0 ?_;exact ak (pre++[(kv,nv,key,ns)],Lf') tR ⟨⟨r',Fb,hL⟩,Hd⟩ hLt
  subst hn6
  have LG:r=[]:=by
    have:=V7.length_eq;rw[zae]at this;exact zbi this.symm
  subst LG;rw[zci]at Zn;refine Zb1 ?_;exact⟨pre,Zn,(Sep.agV (H5.bN.eF) At3)⟩
theorem aaM {bg bh keys sums:Nat} {E:List dH} (hp:(star (blk bg (uF keys sums bh) 150) (JK bh sums E)).ok F w) (hn:E.length<=200) (hEk: ∀x∈E,x.key.length=keys) (hsm:sums<=16):
    aN prog 395 [aA bg] w λu w'=>∃x:Value×List Held,u=x.1/\x.2.map (·.2)=lI sums E/\Turn F (star (dR x.1 x.2) (star (blk bg (uF keys sums bh) 150) (JK bh sums E))) w w':=by
  have G1:=(Sep.dZ hp).dG;obtain⟨L,hS,H⟩:=R7 G1.aJ;have hLl:=ag2 hS;refine eP func395 rfl rfl rfl rfl ?_;refine Zb2 ?_;refine aF H (OE (H.obj At2)) (h:=λw4 H4 k3=>?_);refine Qn (Cd rfl (λQh=>?_) (λQh=>?_))
  . exact Bool.noConfusion Qh
  refine Zb0 ?_;refine aW H4 (h:=λb3 w8 H8 k7=>?_);refine Zb4 ?_;refine dx H8 (aek bh) (h:=λb1 wa _ Ha ka=>?_);refine Zb0 ?_;have hLn: ∀s∈L,s.2.2.1.length<=16/\s.2.2.2.length<=17:=λs hs=>⟨(hS.fit s hs).2,by rw[Oq (hS.is s hs),pQ];omega⟩
  have rA: ∀s∈L,s.1.oneCell'=true/\s.2.1.oneCell'=true:=λs hs=>by
    have h1:=(Sep.sees Ha At2 s hs).1;obtain⟨_,_,e1,_⟩:=h1.1;obtain⟨_,_,e2,_⟩:=h1.2;rw[e1,e2];exact⟨rfl,rfl⟩
  have HJ:Mw.Sep w F (ak8 b3 L []::[blk b1 [.map (some bh)] 148,iX bh (L.map je),blk bg (uF keys sums bh) 150]) wa:=by
    have h1:=(Sep.ny (fK Ha.bF) 82 2).bI.bI.bF.bI;exact Sep.uW (p:=λz:Value×List Held=>star (jI (z.2.map (·.2)=Dr [])) (star (blk b3 [z.1] 27) (star (dR z.1 z.2) (iC λw=>iQ w L)))) (.slice none 0 0,[]) (Sep.bI (Sep.jT rfl h1))
  refine aej (gf:=411) (lb:=[aA b1]) ak7 (λpre=>∃r,(pre++r).Perm L) (λxs=>xs.Perm L) (ak8 b3 L) _ [iX bh (L.map je),blk bg (uF keys sums bh) 150] HJ rfl rfl ?_ ?_ ?_
  . intro l D ro rb pre x Fr W mF HW
    obtain⟨r,Fb⟩:=mF;have hsL:x∈L:=Fb.mem_iff.1 (zcg _ (zch _ (zay.2 rfl)))
    have Zz:pre.length<=L.length:=by
      have:=Fb.length_eq;rw[zad,zad]at this;omega
    obtain⟨kv,nv,key,ns⟩:=x;obtain⟨ho1,ho2⟩:=rA _ hsL;obtain⟨hl1,hl2⟩:=hLn _ hsL;dsimp only at ho1 ho2 hl1 hl2;refine Zb0 ?_;refine aW HW (h:=λb17 wb Hb kb=>?_);refine au Hb (us:=[kv,nv]) (hv:=by simp[ho1,ho2]) (h:=λwc Hc=>?_);refine zK (tQ ?_);refine⟨[blk _ [kv,nv] 440],Sep.JR Hc,λWB HB=>?_⟩;obtain⟨⟨xv,LI⟩,HB1⟩:=Sep.ex0 (Sep.bN HB);obtain⟨hLI,HB2⟩:=Sep.tJ HB1.dG;replace HB2:=HB2.dG.aJ.dG;dsimp only at hLI HB2
    have aso:LI.length<=200:=by
      have h1:=zaw List.length hLI;rw[zae]at h1;have h2:=KV pre;omega
    refine Zb0 ?_;refine Ds (λSa wd Hd=>?_);refine Zb2 ?_;refine dL Sa 2 [(0,false)] Hd (Vi 1 (Sep.sees Hd At1 _ hsL).1.1 (Sep.sees Hd At1 _ hsL).1.2 dO dO) (h:=λy we hy He kc=>?_);obtain⟨yv,Ly⟩:=y;dsimp only at hy He
    have hyl:Ly.length<=1:=by
      have h1:=zaw List.length hy;rw[zae]at h1;have h2:=xL ns key 1;omega
    refine⟨aY He (h:=aK),?_⟩;refine AA Sa 3 _ He oM (h:=λv18 wf Hf=>?_);obtain⟨X18,c18,rfl,_,_⟩:=Sep.eO (Hf.dG) At0;refine⟨sT,?_⟩;refine qd Sa 4 _ Hf (h:=λwg Hg=>⟨sT,?_⟩);refine dP Sa kR ?_;refine y9 (tQ ?_);have h1:=Hg.bI.aJ.bI;exact(Sep.bN (Sep.uW (p:=λz:Value×List Held=>star (jI (z.2.map (·.2)=Dr (pre++[((kv,nv,key,ns):iD)]))) (star (blk b3 [z.1] 27) (star (dR z.1 z.2) (iC λw=>iQ w L)))) (.slice X18 (eU (LI++Ly)).length c18,LI++Ly) (Sep.bI (Sep.jT (by dsimp only;rw[zam,hLI,hy,aaJ]) h1)))).eF.JR
  . intro l D ro W HW hy
    exact aaL rA HW hy
  intro D wh xs hxs HD;obtain⟨⟨xv,LI⟩,HD1⟩:=Sep.ex0 HD.aJ;obtain⟨hLI,HD2⟩:=Sep.tJ HD1.dG;have Hh:=HD2.dG.aJ.dG;dsimp only at hLI Hh
  have aso:LI.length<=200:=by
    have h1:=zaw List.length hLI;rw[zae]at h1;have h2:=KV xs;have h3:=hxs.length_eq;omega
  have aiW: ∀o∈LI.map (·.2),fits o.w/\o.row.length<=1000:=λo ho=>by
    rw[hLI]at ho;obtain⟨s,hs,ho⟩:=zda.1 ho;have h1:=AJ ho;have h2:=hLn s (hxs.mem_iff.1 hs);exact⟨by rw[h1.2];exact⟨dC,dC⟩,by rw[h1.1,zad,zae];omega⟩
  refine Zb1 ?_;refine dx Hh (Dl (dn Hh At0) (by rw[zae];omega) (λo ho=>(aiW o ho).1) (λo ho=>(aiW o ho).2)) (h:=λy wi hy Hi kd=>?_);obtain⟨yv,Ly⟩:=y;rw[hLI,aaK hS hEk hxs]at hy;dsimp only at hy Hi ⊢;refine Za7 ?_;refine Qn (fu (ahB Hi At4 (hR:=λwj Hj=>?_)));exact⟨(yv,Ly),rfl,hy,by
  have h1:=Hj;exact((AB (h1.mM.mM.fF) hS).aJ.bI.aJ.bI.first).turn⟩
end
section
variable {w:Wd}
theorem xM {α:Type} {A:OA} {c k m:Nat} {enc:α->LV} [lY enc k] {l:List α} (h:aM w (.slice A l.length c) enc k l) (hm:m<=l.length):aM w (.slice A m c) enc k (l.take m):=by
 obtain⟨A',c',e,⟨h1,h2⟩,hr⟩:=h;injection e with e1 e2 e3
 subst e1 e3;have hl:(l.take m).length=m:=by rw[zag];omega
 exact⟨A,c,by rw[hl],⟨by rw[hl];omega,h2⟩,hr.cut m⟩
end
theorem ag3 {α:Type} {enc:α->LV} {k:Nat} [hk:lY enc k] {w:Wd} {A:OA} {l:List α} {c j:Nat} (h:aM w (.slice A l.length c) enc k l) (hj:j<=l.length):aM w (.slice (if c=j then A else A.map (·.add (j*k))) (l.length-j) (c-j)) enc k (l.drop j):=by
 obtain⟨A',c',e,⟨h1,h2⟩,h3⟩:=h;injection e with e1 e2 e3
 subst e1;subst e3;have h4:=Pz (j:=l.length-j) h3 h1 h2 oM;rw[show l.length-(l.length-j)=j from oM]at h4;exact h4
def BP (w:Wd) (F:NP) (v:Value) (m:List aH):Prop:=∃r,∀w1,Kept F w w1->aM w1 v av 2 r/\fM w1 r m
theorem BP.is {w:Wd} {F:NP} {v:Value} {m:List aH} (h:BP w F v m): ∀w1,Kept F w w1->cZ w1 v m:=λw1 h1=>by
 obtain⟨r,hr⟩:=h;exact⟨r,(hr w1 h1).1,(hr w1 h1).2⟩
section
variable {w:Wd} {F:NP}
theorem QS {bk bg bh keys sums:Nat} {v:Value} {m:List aH} {E:List dH} (hp:(star (blk bk [aA bg,I keys] 112) (star (blk bg (uF keys sums bh) 150) (JK bh sums E))).ok F w)
    (hm:BP w F v m) (hT: ∀w1,Kept F w w1->fA w1) (LD:keys<=16) (hsm:sums<=16) (hr: ∀o∈m,fits o.w/\o.row.length=keys+sums/\iM o.row) (hn:m.length<=100) (hE:yX sums E=true):
    aN prog 392 [aA bk,v] w λu w'=>∃x:Value×List Held,u=.tuple #[x.1,I (Ak keys sums E (m.map (fE keys))).2]/\x.2.map (·.2)=(Ak keys sums E (m.map (fE keys))).1/\
      Turn F (star (dR x.1 x.2) (star (blk bk [aA bg,I keys] 112) (star (blk bg (uF keys sums bh) 150) (JK bh sums (if(Ak keys sums E (m.map (fE keys))).2=0 then E++m.map (fE keys)else E))))) w w':=by
  have H:=(Sep.dZ hp).dG;obtain⟨r,hrr⟩:=hm;obtain⟨⟨A,c,rfl,⟨hc,hc'⟩,_⟩,ZC⟩:=hrr w (Kept.refl _ _);have xk:=ZC.len;refine dS func392 rfl rfl rfl rfl ?_;refine Zb6 ?_;refine aP (λx:(OA×Nat)×List JD×Nat=>[(0,aA bk),(6,.slice x.1.1 x.2.1.length x.1.2),(9,.slice A r.length c),(10,I r.length),(11,I x.2.2)]) (λx w'=>(x.2.2<=r.length/\x.2.1.map (·.2.2)=(m.take x.2.2).map (fE keys)/\∀w1,Kept F w w1->Mf w1 x.2.1)/\Mw.Sep w F [bW 430 3 BD (.slice x.1.1 x.2.1.length x.1.2) x.2.1,blk bk [aA bg,I keys] 112,star (blk bg (uF keys sums bh) 150) (JK bh sums E)] w') (λx _=>r.length-x.2.2) ((none,0),[],0) tR ⟨⟨zak _,rfl,λw1 _ z hz=>zat hz zaj⟩,Sep.lZ H 430 3 BD⟩ (λx τ w8 hI=>?_);obtain⟨⟨X,cX⟩,Z,i⟩:=x;obtain⟨⟨hi,hZm,hZi⟩,H8⟩:=hI;dsimp only at hi hZm hZi H8
  have hZl:Z.length=i:=by
    have h1:=zaw List.length hZm;rw[zae,zae,zag]at h1;omega
  try simp only[dA,like,bB,bY]
  refine Za1 ?_;refine Qn (fC (Cp rfl (λIa=>?_) (λIa=>?_)))
  . have bX:i<r.length:=oM
    obtain⟨o,ho⟩:=get_some (l:=m) (show i<m.length from oM);obtain⟨au5,au6,au7⟩:=hr o (zao ho);obtain⟨vo,Qp,Jg⟩:=ZC.get ho;obtain⟨V,cv,rfl,⟨hcv,ao3⟩,_⟩:=Jg
    have akQ: ∀w1,Kept F w w1->aM w1 (.slice V o.row.length cv) aj 3 o.row:=λw1 h1=>by
      obtain⟨vo2,Wn,am0⟩:=(hrr w1 h1).2.get ho;rw[Qp]at Wn;injection Wn with Wn
      injection Wn with e1 e2
      rw[e1];exact am0
    obtain⟨z,hz⟩: ∃z:JD,z=(.slice V keys cv,.slice (if cv=keys then V else V.map (·.add (keys*3))) (o.row.length-keys) (cv-keys),fE keys o):=⟨_,rfl⟩
    have asr: ∀w1,Kept F w w1->Mf w1 (Z++[z]):=λw1 h1 y hy=>by
      rcases zbh.1 hy with hy | hy
      . exact hZi w1 h1 y hy
      rw[zay]at hy;subst hy;rw[hz];refine⟨?_,ag3 (akQ w1 h1) oM⟩;have h2:=xM (m:=keys) (akQ w1 h1) oM;exact h2
    have hzm:(Z++[z]).map (·.2.2)=(m.take (i+1)).map (fE keys):=by rw[zam,hZm,zav,ho,hz,zam];rfl
    refine Zb0 ?_;refine Vv (Gives.mK rfl rfl (cO (hrr _ H8.kept).1) bX) (Vv (Gives.jQ rfl (Sep.aL _) (cO (hrr _ H8.kept).1) Qp) ?_);refine aW H8 (h:=λb8 wa Ha ka=>?_);refine au Ha (h:=λwb Hb=>?_);refine Qn (Ds (λSa wc Hc=>?_));refine Zb7 ?_;refine GS (Gn rfl (λ_=>Gives.sliceTo (h:=keys) rfl rfl oM) ?_);refine Zb6 ?_;refine GS (Gn rfl (λ_=>Gives.sliceFrom (l:=keys) rfl rfl oM) ?_);refine Zb2 ?_;refine Gp Sa 17 rfl rfl (λ_=>Gives.build (out:=BD z) (by subst hz;exact(Fills.one rfl rfl rfl sM rfl (Fills.one rfl rfl rfl sM rfl (Fills.one rfl rfl rfl sM rfl Fills.nil))))) (bU Sa 18 _ Hc (xs:=[.tmp 32]) (out:=[z].flatMap BD) (bE.many rfl rfl bE.nil) rfl rfl rfl (h:=λbs wd Hd=>⟨sT,?_⟩));refine jN Sa 19 _ Hd (news:=[z]) At1 (by unfold maxLen;simp only[zan];omega) (by simp only[zan];omega) (by subst hz;exact(λu hu=>zaz.1 (show([_].flatMap BD).all Value.oneCell'=true from rfl) u hu)) (h:=λv34 we He=>?_);obtain⟨X2,cX2,rfl,_,_⟩:=Sep.eO He At1;refine⟨sT,?_⟩;refine yP Sa 20 _ (h:=⟨sT,?_⟩);refine Zb0 ?_;refine Vc ((i+1:Nat):Int) ?_;refine Zb1 ?_;exact ak ((X2,cX2),Z++[z],i+1) tR ⟨⟨dO,hzm,asr⟩,He.eF⟩ dO
  have qp:i=m.length:=oM;rw[qp,zbl]at hZm;refine Zb5 ?_;obtain⟨F0,uI,iK,Uq,aQ⟩:=Sep.BM H8 At1;have CP: ∀w1,Kept F0 _ w1->Kept F w w1:=λw1 h1=>Mw.Kept.into H8.kept iK h1
  have hzo: ∀z∈Z,∃o∈m,z.2.2=fE keys o:=λz hz=>by
    have h1:z.2.2∈Z.map (·.2.2):=zeb hz;rw[hZm]at h1;obtain⟨o,ho,e⟩:=zaq.1 h1;exact⟨o,ho,e.symm⟩
  refine aS (X9 uI (λw1 h1=>by obtain⟨Fq,h2⟩:=Uq w1 h1;exact iE h2) (λw1 h1=>hZi w1 (CP w1 h1)) (λw1 h1=>hT w1 (CP w1 h1)) LD hsm (λz hz=>by
      obtain⟨o,ho,e⟩:=hzo z hz;rw[e];exact λc hc=>(hr o ho).2.2 c (zbo hc)) (λz hz=>by
      obtain⟨o,ho,e⟩:=hzo z hz;rw[e];exact⟨(hr o ho).1,λc hc=>((hr o ho).2.2 c (zfu hc)).1⟩) oM hE) rfl rfl (λv' wf Kh=>?_)
  obtain⟨x,rfl,hx,jH,F1,jA,jO⟩:=Kh;rw[hZm]at hx jA ⊢;have Hf:=aQ _ F1 _ jH jA jO;refine Zb4 ?_;exact⟨x,rfl,hx,(Hf.eF.aJ.dG.aJ.bF.bI.aJ.bI).turn⟩
theorem OQ {bk bg bh keys sums:Nat} {E:List dH} (hp:(star (blk bk [aA bg,I keys] 112) (star (blk bg (uF keys sums bh) 150) (JK bh sums E))).ok F w) (hn:E.length<=200) (hEk: ∀x∈E,x.key.length=keys) (hsm:sums<=16):
    aN prog 393 [aA bk] w λu w'=>∃x:Value×List Held,u=x.1/\x.2.map (·.2)=lI sums E/\Turn F (star (dR x.1 x.2) (star (blk bk [aA bg,I keys] 112) (star (blk bg (uF keys sums bh) 150) (JK bh sums E)))) w w':=by
  have H:=(Sep.dZ hp).dG;refine eP func393 rfl rfl rfl rfl ?_;refine Zb5 ?_;obtain⟨F0,uI,iK,aQ⟩:=H.focus At1;refine aS (aaM uI hn hEk hsm) rfl rfl (λv' w7 Kh=>?_);obtain⟨x,rfl,hx,jH,F1,jA,jO⟩:=Kh;have H7:=aQ _ F1 _ jH jA jO;refine Zb1 ?_;exact⟨x,rfl,hx,(H7.aJ.dG.aJ.bF.bI.aJ.bI).turn⟩
end
def oH (c:aI):aI:=⟨c.null,c.n,c.s.take 200⟩
def QT (x:aH):aH:=⟨(x.row.take 12).map oH,x.w⟩
def jf (l:List aH):List aH:=(l.take 10).map QT
theorem ag4 (s:L8) (k:Nat):s.take (s.take k).length=s.take k:=by
 rw[zag]
 rcases Nat.le_total k s.length with h | h
 .rw[zck h]
 rw[zfg h,zaf (zbf _),zaf h]
section
variable {w:Wd}
theorem rO {l:List aH} {v:Value} (hl:cZ w v l):aN Tryz.prog 12 [v] w λu w'=>∃x:Value×List Held,u=x.1/\x.2.map (·.2)=jf l/\Turn noB (dR x.1 x.2) w w':=by
 obtain⟨r,hr,gW⟩:=hl;obtain⟨A,m,rfl,⟨hm,qo⟩,hA⟩:=hr;have xk:=gW.len;have H:=Sep.aL w;refine eP Tryz.func12 rfl rfl rfl rfl ?_;refine Zb3 ?_;refine aP (λx:(OA×Nat)×List Held×Nat=>[(0,.slice A r.length m),(3,.slice x.1.1 (eU x.2.1).length x.1.2),(4,I x.2.2)]) (λx w'=>(x.2.2<=r.length/\x.2.2<=10/\x.2.1.map (·.2)=(l.take x.2.2).map QT)/\Mw.Sep w noB [bW 82 2 av (.slice x.1.1 (eU x.2.1).length x.1.2) (eU x.2.1),Mc x.2.1] w') (λx _=>r.length-x.2.2) ((none,0),[],0) tR ⟨⟨zak _,zak _,rfl⟩,Sep.ny (fK H) 82 2⟩ (λx τ w5 hI=>?_);obtain⟨⟨R,cR⟩,L,i⟩:=x;obtain⟨⟨hi,asu,hL⟩,H5⟩:=hI;dsimp only at hi asu hL H5;have hLr:(eU L).length=L.length:=zae _
 have hLi:L.length=i:=by
  have h1:=zaw List.length hL;rw[zae,zae,zag]at h1;omega
 try simp only[dA,like,bB,bY]
 refine Zb5 ?_;refine aC (t:=12) rfl (λSa=>?_) (λSa=>?_)
 .refine Za3 ?_
  refine Qn (Cp rfl (λIa=>?_) (λIa=>?_))
  .have bX:i<r.length:=oM
   obtain⟨o,ho⟩:=get_some (l:=l) (show i<l.length from oM);obtain⟨vo,Qp,Jg⟩:=gW.get ho;obtain⟨V,cv,rfl,_,hV⟩:=Jg;refine Zb2 ?_;refine aP (λx:(OA×Nat)×Nat=>[(0,.slice A r.length m),(3,.slice R (eU L).length cR),(4,I i),(5,.slice x.1.1 ((o.row.take x.2).map oH).length x.1.2),(6,I x.2)]) (λx w'=>(x.2<=o.row.length/\x.2<=12)/\Mw.Sep w noB [bW 52 3 aj (.slice x.1.1 ((o.row.take x.2).map oH).length x.1.2) ((o.row.take x.2).map oH),bW 82 2 av (.slice R (eU L).length cR) (eU L),Mc L] w') (λx _=>o.row.length-x.2) ((none,0),0) tR ⟨⟨zak _,zak _⟩,Sep.lZ H5 52 3 aj⟩ (λx τ wa hK=>?_);obtain⟨⟨Y,cY⟩,k⟩:=x;obtain⟨⟨hk,asv⟩,Ha⟩:=hK;dsimp only at hk asv Ha;have hkl:((o.row.take k).map oH).length=k:=by rw[zae,zag];omega
   try simp only[dA,like,bB]
   refine Zb3 ?_;refine Vv (Gives.mK rfl rfl hA bX) (Zb1 ?_);refine Vv (Gives.iJ (f:=0) rfl Ha hA Qp rfl) (Zb3 ?_);refine aC (t:=26) rfl (λSb=>?_) (λSb=>?_)
   .refine Za3 ?_
    refine Qn (Cp rfl (λIb=>?_) (λIb=>?_))
    .have hlk:k<o.row.length:=oM
     obtain⟨c,hc⟩:=get_some hlk;have hks:(o.row.take k).map oH++[oH c]=(o.row.take (k+1)).map oH:=by rw[zav,hc,zam];rfl
     refine Zb2 ?_;refine Vv (Gives.mK rfl rfl hA bX) (Zb1 ?_);refine Vv (Gives.iJ (f:=0) rfl Ha hA Qp rfl) (Mv ?_);refine Vv (Gives.mK rfl rfl hV hlk) (Vv (Gives.jQ rfl Ha hV hc) ?_);refine aW Ha (h:=λb7 wb Hb ka=>?_);refine au Hb (h:=λwc Hc=>?_);refine Zb5 ?_;refine Vv (Gives.C8 rfl rfl (qA c.s 200)) (Vv (Gives.lV (l:=c.s) (i:=(c.s.take 200).length) rfl rfl (by rw[zag];omega)) ?_);rw[ag4];refine Vf ?_;refine bM Hc (h:=λwd Hd=>?_);refine Zb1 ?_;refine iA Hd (cs:=aj (oH c)) (h:=?_);refine Bs Hd ([oH c].flatMap aj) (λbs we He kb=>?_);refine gP He (news:=[oH c]) At1 (by unfold maxLen;simp only[zan];omega) (by simp only[zan];omega) (cells_one (λ_=>rfl) _) (h:=?_);intro v5 wf Hf;rw[hks]at Hf;obtain⟨Y2,cY2,rfl,_,_⟩:=Sep.eO Hf At1;refine Zb2 ?_;refine Vc ((k+1:Nat):Int) ?_;refine Zb1 ?_;exact ak ((Y2,cY2),k+1) tR ⟨⟨dO,dO⟩,Hf.eF⟩ dO
    refine Zb4 ?_;refine Vv (Gives.mK rfl rfl hA bX) (Zb1 ?_)
    have yU:(o.row.take k).map oH=(QT o).row:=by
     unfold QT;dsimp only
     first
     | rw[zaf (l:=o.row) (i:=k) oM,zaf (l:=o.row) (i:=12) oM]
     | rw[show k=12 from oM]
    refine Vv (Gives.iJ (f:=1) rfl Ha hA Qp rfl) (Vb (av (.slice Y ((o.row.take k).map oH).length cY,o.w)) ?_);refine Bs Ha ([(Value.slice Y ((o.row.take k).map oH).length cY,o.w)].flatMap av) (λbs wg Hg kc=>?_);refine gP Hg (news:=[(Value.slice Y ((o.row.take k).map oH).length cY,o.w)]) At1 (by unfold maxLen;simp only[zan];omega) (by simp only[zan];omega) (λu hu=>zaz.1 (show([(Value.slice Y ((o.row.take k).map oH).length cY,o.w)].flatMap av).all Value.oneCell'=true from rfl) u hu) (h:=?_);intro v9 wh Hh;obtain⟨R2,cR2,rfl,_,_⟩:=Sep.eO Hh At1;have hH2:=(nN (x:=.slice Y ((o.row.take k).map oH).length cY) (o:=⟨(o.row.take k).map oH,o.w⟩) (Hh.bF.aJ)).aJ
    have hLe:eU L++[(Value.slice Y ((o.row.take k).map oH).length cY,o.w)]=eU (L++[(Value.slice Y ((o.row.take k).map oH).length cY,(⟨(o.row.take k).map oH,o.w⟩:aH))]):=by
     unfold eU;rw[zam];rfl
    have Ke:(L++[(Value.slice Y ((o.row.take k).map oH).length cY,(⟨(o.row.take k).map oH,o.w⟩:aH))]).map (·.2)=(l.take (i+1)).map QT:=by
     rw[zam,hL,zav,ho,zam,yU];rfl
    rw[hLe]at hH2 ⊢;clear hLe
    generalize L++[(Value.slice Y ((o.row.take k).map oH).length cY,(⟨(o.row.take k).map oH,o.w⟩:aH))]=L2 at hH2 Ke |-
    refine Zb2 ?_;refine Vc ((i+1:Nat):Int) ?_;refine Zb1 ?_;exact ak ((R2,cR2),L2,i+1) tR ⟨⟨dO,dO,Ke⟩,hH2⟩ dO
   refine Zb5 ?_;refine Vv (Gives.mK rfl rfl hA bX) (Zb1 ?_)
   have yU:(o.row.take k).map oH=(QT o).row:=by
    unfold QT;dsimp only
    first
    | rw[zaf (l:=o.row) (i:=k) oM,zaf (l:=o.row) (i:=12) oM]
    | rw[show k=12 from oM]
   refine Vv (Gives.iJ (f:=1) rfl Ha hA Qp rfl) (Vb (av (.slice Y ((o.row.take k).map oH).length cY,o.w)) ?_);refine Bs Ha ([(Value.slice Y ((o.row.take k).map oH).length cY,o.w)].flatMap av) (λbs wi Hi kd=>?_);refine gP Hi (news:=[(Value.slice Y ((o.row.take k).map oH).length cY,o.w)]) At1 (by unfold maxLen;simp only[zan];omega) (by simp only[zan];omega) (λu hu=>zaz.1 (show([(Value.slice Y ((o.row.take k).map oH).length cY,o.w)].flatMap av).all Value.oneCell'=true from rfl) u hu) (h:=?_);intro v9 wj Hj;obtain⟨R2,cR2,rfl,_,_⟩:=Sep.eO Hj At1;have hH2:=(nN (x:=.slice Y ((o.row.take k).map oH).length cY) (o:=⟨(o.row.take k).map oH,o.w⟩) (Hj.bF.aJ)).aJ
   have hLe:eU L++[(Value.slice Y ((o.row.take k).map oH).length cY,o.w)]=eU (L++[(Value.slice Y ((o.row.take k).map oH).length cY,(⟨(o.row.take k).map oH,o.w⟩:aH))]):=by
    unfold eU;rw[zam];rfl
   have Ke:(L++[(Value.slice Y ((o.row.take k).map oH).length cY,(⟨(o.row.take k).map oH,o.w⟩:aH))]).map (·.2)=(l.take (i+1)).map QT:=by
    rw[zam,hL,zav,ho,zam,yU];rfl
   rw[hLe]at hH2 ⊢;clear hLe
   generalize L++[(Value.slice Y ((o.row.take k).map oH).length cY,(⟨(o.row.take k).map oH,o.w⟩:aH))]=L2 at hH2 Ke |-
   refine Zb2 ?_;refine Vc ((i+1:Nat):Int) ?_;refine Zb1 ?_;exact ak ((R2,cR2),L2,i+1) tR ⟨⟨dO,dO,Ke⟩,hH2⟩ dO
  refine Zb2 ?_
  have am1:(l.take i).map QT=jf l:=by
   unfold jf
   first
   | rw[zaf (l:=l) (i:=i) oM,zaf (l:=l) (i:=10) oM]
   | rw[show i=10 from oM]
  exact⟨(_,L),rfl,by dsimp only;rw[hL,am1],H5.bI.turn⟩
 refine Zb3 ?_
 have am1:(l.take i).map QT=jf l:=by
  unfold jf
  first
  | rw[zaf (l:=l) (i:=i) oM,zaf (l:=l) (i:=10) oM]
  | rw[show i=10 from oM]
 exact⟨(_,L),rfl,by dsimp only;rw[hL,am1],H5.bI.turn⟩
end
section
variable {w:Wd}
end
def tu:List bL:=[⟨1,[],⟨2,false⟩,cell0⟩,⟨2,[],⟨4,true⟩,cell0⟩]
section
variable {w:Wd}
theorem VA:aN Tryz.prog 38 [] w λu w'=>∃x,u=x/\True/\Turn noB (bW 54 7 aR x tu) w w':=by
 have H:=Sep.aL w;refine ab7 Tryz.func38 rfl rfl rfl ?_;refine Zb1 ?_;refine Vb (bD ⟨2,false⟩) ?_;refine Vv (Gives.build (out:=aR ⟨1,[],⟨2,false⟩,cell0⟩) (Fills.one rfl rfl rfl sM rfl (Fills.many rfl rfl (zbc rfl) rfl Fills.nil))) (Vb (bD ⟨4,true⟩) ?_);refine Vv (Gives.build (out:=aR ⟨2,[],⟨4,true⟩,cell0⟩) (Fills.one rfl rfl rfl sM rfl (Fills.many rfl rfl (zbc rfl) rfl Fills.nil))) (Bs H (tu.flatMap aR) (λbs w7 H7 k6=>?_));refine Zb1 ?_;exact⟨_,rfl,trivial,(Sep.rM (n:=2) (s:=7) H7 At0 rfl dC).turn⟩
end
def Ya (s:L8):aI:=if s=[]then⟨true,0,[]⟩else⟨false,0,s⟩
def acB (id:Int) (s:L8):List aI:=[⟨false,id,[]⟩,Ya s]
section
variable {w:Wd}
theorem nk (id wt:Int) (s:L8):aN Tryz.prog 36 [I id,str s,I wt] w λu w'=>∃x:Value,u=agg (av (x,wt))/\True/\Turn noB (bW 52 3 aj x (acB id s)) w w':=by
 have H:=Sep.aL w;refine VL Tryz.func36 rfl rfl rfl rfl ?_;refine Sr (aW H (h:=λb6 w2 H2 k1=>?_));refine Zb1 ?_;refine Vb (aj ⟨false,0,s⟩) ?_;refine aW H2 (h:=λb7 w6 H6 k5=>?_);refine au H6 (h:=λw8 H8=>?_);refine Za2 ?_;refine Qn (Cp rfl (λIa=>?_) (λIa=>?_))
 .have hs:s=[]:=Ia
  have ht:Ya s=⟨true,0,[]⟩:=zac hs;refine Zb0 ?_;refine Vb (aj ⟨true,0,[]⟩) ?_;refine au H8 (h:=λwa Ha=>?_);refine Zb1 ?_;rw[<-ht]at Ha;refine Vb (aj ⟨false,id,[]⟩) ?_;refine iA Ha (cs:=aj (Ya s)) (h:=?_);refine Bs Ha ((acB id s).flatMap aj) (λbs wb Hb ka=>?_);refine Mv ?_;refine Vb (av (.slice (some ⟨bs,0,none⟩) 2 2,wt)) ?_;refine au Hb (h:=λwc Hc=>?_);refine Qn (fu (aX (h:=?_)));exact⟨_,jg Hc,_,rfl,trivial,(Sep.rM (n:=2) (s:=3) Hc At0 rfl dC).first.turn⟩
 have hs: ¬s=[]:=Ia;have ht:Ya s=⟨false,0,s⟩:=zab hs;refine Zb1 ?_;rw[<-ht]at H8;refine Vb (aj ⟨false,id,[]⟩) ?_;refine iA H8 (cs:=aj (Ya s)) (h:=?_);refine Bs H8 ((acB id s).flatMap aj) (λbs wd Hd kb=>?_);refine Mv ?_;refine Vb (av (.slice (some ⟨bs,0,none⟩) 2 2,wt)) ?_;refine au Hd (h:=λwe He=>?_);refine Qn (fu (aX (h:=?_)));exact⟨_,jg He,_,rfl,trivial,(Sep.rM (n:=2) (s:=3) He At0 rfl dC).first.turn⟩
end
/-! A plan that is owned whole:L has each out beside the value of its steps. -/
section
variable {w:Wd}
end
def GA (c:aI):Prop:=fits c.n/\c.s.length<=1024
theorem JL:GA cell0:=⟨⟨dC,dC⟩,dC⟩
theorem ael {cols:List bL} {l:List bJ} {r:List aI} (hf:jX r) (hx:bK l):GA (oL cols l r).1:=by
 unfold oL
 split
 .exact JL
 rename_i h1
 split
 .exact JL
 rename_i h2;cases hr:DT cols r [] l with
 | none=>exact JL
 | some st=>
  have ht: ∃t,runT cols [] l=some [t]:=by
   unfold jJ at h1
   split at h1
   .exact zat (show(5:Int)≠0 from dC) h1
   split at h1
   .rename_i t ht;exact⟨t,ht⟩
   exact zat (show(220:Int)≠0 from dC) h1
  obtain⟨t,ht⟩:=ht;have hT:=Rw (Decidable.of_not_not h2) hf hx Typed.nil ht hr;show GA (st.getD 0 cell0)
  cases hs:st[0]? with
  | none=>rw[zau,hs];exact JL
  | some c=>
   rw[zau,hs];have:=hT.2 0 t c rfl hs;exact⟨this.2,YG this.1⟩
theorem Tf {cols:List bL} {r:List aI} (hf:jX r): ∀{l:List jL},(∀o∈l,bK o.steps)->(∀c∈(iw cols r l).1,GA c)/\((iw cols r l).2=0->(iw cols r l).1.length=l.length)
 | [],_=>⟨λc hc=>zat hc zaj,λ_=>rfl⟩
 | o::l,h=>by
  obtain⟨i1,i2⟩:=Tf hf (l:=l) λo ho=>h o (zai _ ho);rw[iw]
  split
  .rename_i h1;exact⟨λc hc=>zat hc zaj,λh2=>zat h2 h1⟩
  split
  .rename_i h1;exact⟨λc hc=>zat hc zaj,λh2=>zat h2 h1⟩
  rename_i h1 h2;refine⟨λc hc=>?_,λ_=>?_⟩
  .rcases zap.1 hc with rfl | hc
   .exact ael hf (h o zah)
   exact i1 c hc
  show _+1=_+1
  rw[i2 (Decidable.of_not_not h2)]
def OT (n:Nat) (x:aH):Prop:=fits x.w/\x.row.length=n/\∀c∈x.row,GA c
theorem ag5 {cols:List bL} {p:aZ} {r:List aI} (hf:jX r) (hp: ∀o∈p.cols,bK o.steps):(∀c∈(jm cols p r).1,GA c)/\((jm cols p r).2.1=true->(jm cols p r).1.length=p.cols.length):=by
 obtain⟨i1,i2⟩:=Tf (cols:=cols) hf hp;unfold jm
 split
 .exact⟨λc hc=>zat hc zaj,λh=>Bool.noConfusion h⟩
 split
 .exact⟨λc hc=>zat hc zaj,λh=>Bool.noConfusion h⟩
 split
 .exact⟨λc hc=>zat hc zaj,λh=>Bool.noConfusion h⟩
 rename_i h;exact⟨i1,λ_=>i2 (Decidable.of_not_not h)⟩
def bR (x:aH):Prop:=fits x.w/\jX x.row
theorem ED {cols:List bL} {p:aZ} (hp: ∀o∈p.cols,bK o.steps): ∀{l:List aH},(∀x∈l,bR x)->∀x∈(cB cols p l).1,OT p.cols.length x
 | [],_,x,hx=>zat hx zaj
 | y::l,h,x,hx=>by
  have ih:=ED (cols:=cols) hp (l:=l) λz hz=>h z (zai _ hz);obtain⟨h1,h2⟩:=h y zah;obtain⟨m1,m2⟩:=ag5 (cols:=cols) (p:=p) h2 hp;rw[cB]at hx
  split at hx
  .exact zat hx zaj
  split at hx
  .exact zat hx zaj
  split at hx
  .rename_i hb
   rcases zap.1 hx with rfl | hx
   .exact⟨h1,m2 hb,m1⟩
   exact ih x hx
  exact ih x hx
theorem uP {cols:List bL} {p:aZ}: ∀l:List aH,(cB cols p l).1.length<=l.length
 | []=>zbf _
 | y::l=>by
  have ih:=uP (cols:=cols) (p:=p) l;rw[cB]
  split
  .exact zak _
  split
  .exact zak _
  split
  .simp only[zal];omega
  simp only[zal];omega
theorem ag6 {g:Int} {n:Nat} {T m:List aH} (hg:g<0) (hT:(dY T).2=0):Ow (dY T).1 m=(jd g n T m,(dY (if(jd g n T m).2=0 then T++m else T)).1):=by
  have e: ∀X,dK g n X=dY X:=λX=>by unfold dK;rw[zac hg]
  have hm:jd g n T m=if(dY (T++m)).2≠0 then([],(dY (T++m)).2)else dY m:=by unfold jd;rw[e,zac hg]
  unfold Ow
  by_cases h1:(dY m).2=0
  . have ea:Fv (dY T).1 (dY m).1=dY (T++m):=by
      rw[acr qE qE];unfold UW;rw[Xo hT,Ry h1]
    rw[zab (not_not_intro h1),ea,hm]
    by_cases h2:(dY (T++m)).2=0
    . rw[zab (not_not_intro h2),zab (not_not_intro h2),zac h1]
      exact Prod.ext (Prod.ext rfl h1.symm) rfl
    rw[zac h2,zac h2,zab h2]
  rw[zac h1,hm,nK h1]
  by_cases h2:(dY (T++m)).2=0
  . rw[zab (not_not_intro h2),zab dC]
  rw[zac h2,zab h2,nK h2]
end Go.Proofs.YtkfpleidaoaonaaGreatDoor
