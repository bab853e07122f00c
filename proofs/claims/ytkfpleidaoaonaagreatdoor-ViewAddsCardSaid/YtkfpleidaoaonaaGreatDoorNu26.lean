/-
 The law's examples;walked.
-/
import Derived.Test.YtkfpleidaoaonaaGreatDoorNu1
import Derived.Test.YtkfpleidaoaonaaGreatDoorNu3
import Derived.Test.YtkfpleidaoaonaaGreatDoorNu25
set_option linter.unusedVariables false
set_option linter.unusedSimpArgs false
namespace Go.Proofs.YtkfpleidaoaonaaGreatDoor
open Go Go.Mw Go.Lib
set_option maxRecDepth 4000
attribute [local irreducible] FW FL FG FGn gu gy dh gH Qfn Gives
def alb (x:aH):Bool:=decide (-9223372036854775808<=x.w/\x.w<=9223372036854775807)&&x.row.all λc=>decide (-9223372036854775808<=c.n/\c.n<=9223372036854775807)
theorem qI {l:List aH} (h:l.all alb=true): ∀x∈l,bR x:=λx hx=>by
 have h1:=zaz.1 h x hx;unfold alb at h1;rw[zbv]at h1;refine⟨zba (p:= -9223372036854775808<=x.w/\x.w<=9223372036854775807) h1.1,λc hc=>?_⟩;exact zba (p:= -9223372036854775808<=c.n/\c.n<=9223372036854775807) (zaz.1 h1.2 c hc)
theorem gZ {x:List aH×Int} {a:List aH} {e:Int} (h:x=(a,e)):(decide (x.1=a)&&decide (x.2=e))=true:=by subst h;simp
theorem fA1: ∀x∈lA1,bR x:=qI dC
theorem fA2: ∀x∈lA2,bR x:=qI dC
theorem fG1: ∀x∈lG1,bR x:=qI dC
theorem fG2: ∀x∈lG2,bR x:=qI dC
theorem fG3: ∀x∈lG3,bR x:=qI dC
theorem fD: ∀x∈lD,bR x:=qI dC
theorem fO1: ∀x∈lO1,bR x:=qI dC
theorem fO2: ∀x∈lO2,bR x:=qI dC
theorem Tv:tA1.length<=10/\tA2.length<=10/\tG1.length<=10/\tG2.length<=10:=by decide+kernel
theorem aeD:bK plA.wh/\∀o∈plA.cols,bK o.steps:=(Dz ak9).2.1
theorem gI:bK plG.wh/\∀o∈plG.cols,bK o.steps:=(Dz ahm).2.1
theorem aj1:bK plO.wh/\∀o∈plO.cols,bK o.steps:=(Dz ala).2.1
theorem ahn:mg plA tA1:=oV (holds_nil plA) aeD.2 fA1 dC
theorem amg:mg plA tA2:=oV ahn aeD.2 fA2 (by have:=Tv.1;have h:lA2.length=2:=rfl;omega)
theorem ji:mg plG tG1:=oV (holds_nil plG) gI.2 fG1 dC
theorem aho:mg plG tG2:=oV ji gI.2 fG2 (by have:=Tv.2.2.1;have h:lG2.length=2:=rfl;omega)
theorem ahp:dw tu plG tG2 lG3=tG2:=by unfold dw;rw[dQ.2.2.2.1,zab dC]
theorem ahq:dw tu plO [] lO1=[]:=by unfold dw;rw[K4.2.1,zab dC]
section
variable {w:Wd}
set_option maxHeartbeats 2000000 in
theorem iH (hT:fA w):aN Tryz.prog 18 [] w λv w'=>v=.bool true/\Kept noB w w':=by
 have H:=Sep.aL w;have nU: ∀wx,Kept noB w wx->fA wx:=λwx h=>hT.keep h;refine ab7 Tryz.func18 rfl rfl rfl ?_;refine Zb3 ?_;refine dx H (K7 ak9 GH.1 dC dC (hT.keep H.kept)) (h:=λbA w5 _ H5 k4=>?_);refine Zb2 ?_;refine dx H5 (nk 1 1 aV) (h:=λx1 w9 _ H9 k8=>?_);refine dx H9 (nk (-2) 1 bV) (h:=λx2 wa _ Ha ka=>?_);refine dx Ha (nk 3 2 aV) (h:=λx3 wb _ Hb kb=>?_);refine Bs Hb ([(x1,1),(x2,1),(x3,2)].flatMap av) (λbs wc Hc kc=>?_);have Hc:=AP Hc;refine Mv ?_;refine fB (fs:=[]) (cs:=[]) (vals:=[I 3]) rfl (K6 3) rfl rfl (λv' wd hv=>?_);obtain⟨y1,rfl,_,jH,F1,jA,jO⟩:=hv;have He:=Hc.new jH jA (λb hb=>(jO b hb).resolve_left id);refine Bs He ([(y1,3)].flatMap av) (λbs2 we Hf kd=>?_);have Hf:=pU Hf;refine aS (eZ (li:=lA1) (lw:=[Ms 3]) (e:=0) Hf.bI nU GH.1 aeD.1 aeD.2 (holds_nil plA) fA1 dC) rfl rfl (λv' wf hv=>?_);obtain⟨rfl,Hg⟩:=hv;rw[gZ GH.2.1];refine Vv (Gives.not rfl) (Mv ?_);refine iN (t:=24) rfl (λSa=>?_) (λSa=>?_)
 .exact Bool.noConfusion Sa
 refine Zb1 ?_;refine dx Hg (nk 1 (-1) aV) (h:=λx4 wg _ Hh ke=>?_);refine On (dx Hh (nk (-2) (-1) bV) (h:=λx5 wi _ Hi kf=>?_));refine On (Bs Hi ([(x4, -1),(x5, -1)].flatMap av) (λbs3 wj Hj kg=>?_));have Hj:=eu Hj;refine Zb1 ?_;refine fB (fs:=[]) (cs:=[]) (vals:=[I (-1)]) rfl (K6 (-1)) rfl rfl (λv' wk hv=>?_);obtain⟨y2,rfl,_,jH,F1,jA,jO⟩:=hv;have Hk:=Hj.new jH jA (λb hb=>(jO b hb).resolve_left id);refine On (Bs Hk ([(y2, -1)].flatMap av) (λbs4 wl Hl kh=>?_));have Hl:=pU Hl;refine On (aS (eZ (T:=tA1) (li:=lA2) (lw:=[Ms (-1)]) (e:=0) Hl.bI nU GH.1 aeD.1 aeD.2 ahn fA2 dC) rfl rfl (λv' wm hv=>?_));obtain⟨rfl,Hm⟩:=hv;rw[gZ GH.2.2.1];refine On (Vv (Gives.not rfl) (Zb2 ?_));refine iN (t:=35) rfl (λSb=>?_) (λSb=>?_)
 .exact Bool.noConfusion Sb
 refine Zb1 ?_;obtain⟨F0,uI,iK,aQ⟩:=Hm.focus At0;refine aS (Dv (T:=tA2) uI GH.1 amg) rfl rfl (λv' wn hv=>?_);obtain⟨xr,rfl,hxr,jH,F1,jA,jO⟩:=hv;have Hn:=(aQ _ F1 _ jH jA jO).dG;rw[GH.2.2.2]at hxr;refine Zb1 ?_;refine fB (fs:=[]) (cs:=[]) (vals:=[I 2]) rfl (K6 2) rfl rfl (λv' wo hv=>?_);obtain⟨y3,rfl,_,jH,F1,jA,jO⟩:=hv;have Ho:=Hn.new jH jA (λb hb=>(jO b hb).resolve_left id);refine On (Bs Ho ([(y3,2)].flatMap av) (λbs5 wp Hp ki=>?_));have Hp:=pU Hp;refine On ?_;have hxI:=dn Hp At1;rw[hxr]at hxI;refine aF Hp (Mg (m:=[Ms 2]) hxI ⟨_,(Sep.sees Hp At0).1,(Sep.sees Hp At0).2⟩) (h:=λwq Hq kj=>?_);rw[zbe (show(([Ms 2],(0:Int)):List aH×Int).1=[Ms 2]from rfl)];refine On (Vv (Gives.not rfl) (Pf ?_));refine Qn (Cd rfl (λIa=>?_) (λIa=>?_))
 .exact Bool.noConfusion Ia
 refine Zb0 ?_;refine dx Hq (K7 ahm dQ.1 dC dC (hT.keep Hq.kept)) (h:=λbG wr _ Hr kk=>?_);refine Zb1 ?_;refine Vb (aj zx) ?_;refine Vb (aj (bT aV)) ?_;have Hs:=Hr.first;refine aW Hs (h:=λb5 ws Hs kl=>?_);refine aW Hs (h:=λb6 wt Ht km=>?_);refine au Ht (h:=λwu Hu=>?_);refine au Hu (h:=λwv Hv=>?_);refine Qn (iP (λx:Nat×Nat=>[(4,aA x.1),(6,aA x.2)]) (λx w'=>Mw.Sep w noB [jq x.1 tu plG tG2,blk x.2 (aj (bT aV)) 52] w') ?_ ?_)
 .refine Zb0 ?_
  refine Ds (λSc ww Hw=>?_);refine Zb1 ?_;refine Gm Sc 5 ?_;refine Zb1 ?_;refine Gm Sc 8 ?_;refine Zb1 ?_;refine dL Sc 1 [(9,false),(8,true),(6,false),(5,true),(0,true)] Hw (nk 5 1 aV) (h:=λx1 wy _ Hx kn=>⟨aO Hx (h:=ah (aO Hx (h:=ah (ah (aK))))),?_⟩);refine dL Sc 2 [(9,false),(8,true),(6,false),(5,true),(0,true)] Hx (nk 2 1 aV) (h:=λx2 wz _ Hy ko=>⟨aO Hy (h:=ah (aO Hy (h:=ah (ah (aK))))),?_⟩);refine dL Sc 3 [(9,false),(8,true),(6,false),(5,true),(0,true)] Hy (nk 1 1 []) (h:=λx3 wD _ Hz kp=>⟨aO Hz (h:=ah (aO Hz (h:=ah (ah (aK))))),?_⟩);refine jK Sc (e1:=4) (e2:=7) kR ?_ ?_
  .refine dI Sc 4 [(9,false),(8,true),(6,false),(5,true),(0,true)] Hz (xs:=[.tmp 48,.tmp 49,.tmp 50]) (out:=[(x1,1),(x2,1),(x3,1)].flatMap av) (bE.many rfl rfl (bE.many rfl rfl (bE.many rfl rfl bE.nil))) rfl rfl rfl (h:=λbs wE HA=>?_)
   (have HA:=AP HA)
   refine⟨aO HA (h:=ah (aO HA (h:=ah (ah (aK))))),?_⟩;refine jc Sc 7 [(9,false),(8,true),(0,true)] (y:=.tmp 52) (fs:=[]) (cs:=[]) (vals:=[agg (aj zx),I 1,I 1,I 1]) rfl (gG zx 1 1 1) (h:=λv' wF hv=>?_);obtain⟨y1,rfl,_,jH,F1,jA,jO⟩:=hv;have HB:=HA.new jH jA (λb hb=>(jO b hb).resolve_left id);refine⟨aO HB (h:=ah (ah (aK))),?_⟩;refine jc Sc 10 _ (y:=.tmp 55) (fs:=[]) (cs:=[]) (vals:=[agg (aj (bT aV)),I 2,I 7,I 1]) rfl (gG (bT aV) 2 7 1) (h:=λv' wG hv=>?_);obtain⟨y2,rfl,_,jH,F1,jA,jO⟩:=hv;have HC:=HB.new jH jA (λb hb=>(jO b hb).resolve_left id);refine⟨sT,?_⟩;refine bU Sc 11 _ HC (xs:=[.tmp 54,.tmp 57]) (out:=[(y1,1),(y2,1)].flatMap av) (bE.many rfl rfl (bE.many rfl rfl bE.nil)) rfl rfl rfl (h:=λbq wH HD=>?_)
   (have HD:=eu HD)
   refine⟨sT,?_⟩
   first
   | refine fO Sc 12 [] rfl kR (eZ (li:=lG1) (lw:=[gV zx 1 1 1,gV (bT aV) 2 7 1]) (e:=0) HD.fF.bF.bF.bI nU dQ.1 gI.1 gI.2 (holds_nil plG) fG1 dC) rfl kR kR (λv' wI hv=>?_)
   | refine fO Sc 12 [] rfl kR (eZ (li:=lG1) (lw:=[gV zx 1 1 1,gV (bT aV) 2 7 1]) (e:=0) HD.fF.aJ.bF.bI nU dQ.1 gI.1 gI.2 (holds_nil plG) fG1 dC) rfl kR kR (λv' wI hv=>?_)
   obtain⟨rfl,HE⟩:=hv;rw[gZ dQ.2.1];refine⟨sT,?_⟩;refine GS (Gn rfl (λ_=>Gives.not rfl) ?_);refine Zb1 ?_;refine AV (t:=61) rfl (λSd=>?_) (λSd=>?_)
   .exact Bool.noConfusion Sd
   refine Zb1 ?_;refine Gm Sc 19 ?_;refine Zb1 ?_;refine Gm Sc 22 ?_;refine Zb1 ?_;refine dL Sc 16 [(23,false),(22,true),(20,false),(19,true),(15,true)] HE (nk 2 (-1) aV) (h:=λx4 wJ _ HF kq=>⟨aO HF (h:=ah (aO HF (h:=ah (ah (aK))))),?_⟩);refine dL Sc 17 [(23,false),(22,true),(20,false),(19,true),(15,true)] HF (nk 9 1 aV) (h:=λx5 wK _ HG kr=>⟨aO HG (h:=ah (aO HG (h:=ah (ah (aK))))),?_⟩);refine jK Sc (e1:=18) (e2:=21) kR ?_ ?_
   .refine dI Sc 18 [(23,false),(22,true),(20,false),(19,true),(15,true)] HG (xs:=[.tmp 63,.tmp 64]) (out:=[(x4, -1),(x5,1)].flatMap av) (bE.many rfl rfl (bE.many rfl rfl bE.nil)) rfl rfl rfl (h:=λbs3 wL HH=>?_)
    (have HH:=eu HH)
    refine⟨aO HH (h:=ah (aO HH (h:=ah (ah (aK))))),?_⟩;refine jc Sc 21 [(23,false),(22,true),(15,true)] (y:=.tmp 66) (fs:=[]) (cs:=[]) (vals:=[agg (aj (bT aV)),I 2,I 7,I (-1)]) rfl (gG (bT aV) 2 7 (-1)) (h:=λv' wM hv=>?_);obtain⟨y3,rfl,_,jH,F1,jA,jO⟩:=hv;have HI:=HH.new jH jA (λb hb=>(jO b hb).resolve_left id);refine⟨aO HI (h:=ah (ah (aK))),?_⟩;refine jc Sc 24 _ (y:=.tmp 69) (fs:=[]) (cs:=[]) (vals:=[agg (aj (bT aV)),I 2,I 14,I 1]) rfl (gG (bT aV) 2 14 1) (h:=λv' wN hv=>?_);obtain⟨y4,rfl,_,jH,F1,jA,jO⟩:=hv;have HJ:=HI.new jH jA (λb hb=>(jO b hb).resolve_left id);refine⟨sT,?_⟩;refine bU Sc 25 _ HJ (xs:=[.tmp 68,.tmp 71]) (out:=[(y3, -1),(y4,1)].flatMap av) (bE.many rfl rfl (bE.many rfl rfl bE.nil)) rfl rfl rfl (h:=λbq2 wO HK=>?_)
    (have HK:=eu HK)
    refine⟨sT,?_⟩
    first
    | refine fO Sc 26 [] rfl kR (eZ (T:=tG1) (li:=lG2) (lw:=[gV (bT aV) 2 7 (-1),gV (bT aV) 2 14 1]) (e:=0) HK.bI nU dQ.1 gI.1 gI.2 ji fG2 dC) rfl kR kR (λv' wP hv=>?_)
    | refine fO Sc 26 [] rfl kR (eZ (T:=tG1) (li:=lG2) (lw:=[gV (bT aV) 2 7 (-1),gV (bT aV) 2 14 1]) (e:=0) HK.aJ.bI nU dQ.1 gI.1 gI.2 ji fG2 dC) rfl kR kR (λv' wP hv=>?_)
    obtain⟨rfl,HL⟩:=hv;rw[gZ dQ.2.2.1];refine⟨sT,?_⟩;refine GS (Gn rfl (λ_=>Gives.not rfl) ?_);refine Za1 ?_;refine dP Sc kR ?_;refine aU (Cd rfl (λIb=>?_) (λIb=>?_))
    .exact Bool.noConfusion Ib
    refine Zb0 ?_;exact aG (bG,b6) tR (HL.firsts (l:=[_,_]))
   refine lN Sc 21 [(23,false),(22,true),(15,true)] (y:=.tmp 66) (fs:=[]) (cs:=[]) (vals:=[agg (aj (bT aV)),I 2,I 7,I (-1)]) rfl (gG (bT aV) 2 7 (-1)) (h:=λv' wQ hv=>?_);obtain⟨y3,rfl,_,jH,F1,jA,jO⟩:=hv;have HM:=HG.new jH jA (λb hb=>(jO b hb).resolve_left id);refine⟨aO HM (h:=ah (ah (aK))),?_⟩;refine jK Sc (e1:=18) (e2:=24) kR ?_ ?_
   .refine dI Sc 18 [(23,false),(22,true),(15,true)] HM (xs:=[.tmp 63,.tmp 64]) (out:=[(x4, -1),(x5,1)].flatMap av) (bE.many rfl rfl (bE.many rfl rfl bE.nil)) rfl rfl rfl (h:=λbs3 wR HN=>?_)
    (have HN:=eu HN.bN.bN.bF)
    refine⟨aO HN (h:=ah (ah (aK))),?_⟩;refine jc Sc 24 _ (y:=.tmp 69) (fs:=[]) (cs:=[]) (vals:=[agg (aj (bT aV)),I 2,I 14,I 1]) rfl (gG (bT aV) 2 14 1) (h:=λv' wS hv=>?_);obtain⟨y4,rfl,_,jH,F1,jA,jO⟩:=hv;have HO:=HN.new jH jA (λb hb=>(jO b hb).resolve_left id);refine⟨sT,?_⟩;refine bU Sc 25 _ HO (xs:=[.tmp 68,.tmp 71]) (out:=[(y3, -1),(y4,1)].flatMap av) (bE.many rfl rfl (bE.many rfl rfl bE.nil)) rfl rfl rfl (h:=λbq2 wT HQ=>?_)
    (have HQ:=eu HQ.bN.bF.bF)
    refine⟨sT,?_⟩
    first
    | refine fO Sc 26 [] rfl kR (eZ (T:=tG1) (li:=lG2) (lw:=[gV (bT aV) 2 7 (-1),gV (bT aV) 2 14 1]) (e:=0) HQ.bI nU dQ.1 gI.1 gI.2 ji fG2 dC) rfl kR kR (λv' wU hv=>?_)
    | refine fO Sc 26 [] rfl kR (eZ (T:=tG1) (li:=lG2) (lw:=[gV (bT aV) 2 7 (-1),gV (bT aV) 2 14 1]) (e:=0) HQ.aJ.bI nU dQ.1 gI.1 gI.2 ji fG2 dC) rfl kR kR (λv' wU hv=>?_)
    obtain⟨rfl,HR⟩:=hv;rw[gZ dQ.2.2.1];refine⟨sT,?_⟩;refine GS (Gn rfl (λ_=>Gives.not rfl) ?_);refine Za1 ?_;refine dP Sc kR ?_;refine aU (Cd rfl (λIc=>?_) (λIc=>?_))
    .exact Bool.noConfusion Ic
    refine Zb0 ?_;exact aG (bG,b6) tR (HR.firsts (l:=[_,_]))
   refine lN Sc 24 _ (y:=.tmp 69) (fs:=[]) (cs:=[]) (vals:=[agg (aj (bT aV)),I 2,I 14,I 1]) rfl (gG (bT aV) 2 14 1) (h:=λv' wV hv=>?_);obtain⟨y4,rfl,_,jH,F1,jA,jO⟩:=hv;have HS:=HM.new jH jA (λb hb=>(jO b hb).resolve_left id);refine⟨sT,?_⟩;refine jK Sc (e1:=18) (e2:=25) kR ?_ ?_
   .refine dI Sc 18 _ HS (xs:=[.tmp 63,.tmp 64]) (out:=[(x4, -1),(x5,1)].flatMap av) (bE.many rfl rfl (bE.many rfl rfl bE.nil)) rfl rfl rfl (h:=λbs3 wW HT=>?_)
    (have HT:=eu HT.fF.fF.bF)
    refine⟨sT,?_⟩;refine bU Sc 25 _ HT (xs:=[.tmp 68,.tmp 71]) (out:=[(y3, -1),(y4,1)].flatMap av) (bE.many rfl rfl (bE.many rfl rfl bE.nil)) rfl rfl rfl (h:=λbq2 wX HU=>?_)
    (have HU:=eu HU.bN.bN.bF)
    refine⟨sT,?_⟩
    first
    | refine fO Sc 26 [] rfl kR (eZ (T:=tG1) (li:=lG2) (lw:=[gV (bT aV) 2 7 (-1),gV (bT aV) 2 14 1]) (e:=0) HU.bI nU dQ.1 gI.1 gI.2 ji fG2 dC) rfl kR kR (λv' wY hv=>?_)
    | refine fO Sc 26 [] rfl kR (eZ (T:=tG1) (li:=lG2) (lw:=[gV (bT aV) 2 7 (-1),gV (bT aV) 2 14 1]) (e:=0) HU.aJ.bI nU dQ.1 gI.1 gI.2 ji fG2 dC) rfl kR kR (λv' wY hv=>?_)
    obtain⟨rfl,HV⟩:=hv;rw[gZ dQ.2.2.1];refine⟨sT,?_⟩;refine GS (Gn rfl (λ_=>Gives.not rfl) ?_);refine Za1 ?_;refine dP Sc kR ?_;refine aU (Cd rfl (λId=>?_) (λId=>?_))
    .exact Bool.noConfusion Id
    refine Zb0 ?_;exact aG (bG,b6) tR (HV.firsts (l:=[_,_]))
   refine dI Sc 25 _ HS (xs:=[.tmp 68,.tmp 71]) (out:=[(y3, -1),(y4,1)].flatMap av) (bE.many rfl rfl (bE.many rfl rfl bE.nil)) rfl rfl rfl (h:=λbq2 wZ HW=>?_)
   (have HW:=eu HW)
   refine⟨sT,?_⟩;refine bU Sc 18 _ HW (xs:=[.tmp 63,.tmp 64]) (out:=[(x4, -1),(x5,1)].flatMap av) (bE.many rfl rfl (bE.many rfl rfl bE.nil)) rfl rfl rfl (h:=λbs3 w_ HX=>?_)
   (have HX:=eu HX.bN.bN.bF)
   refine⟨sT,?_⟩
   first
   | refine fO Sc 26 [] rfl kR (eZ (T:=tG1) (li:=lG2) (lw:=[gV (bT aV) 2 7 (-1),gV (bT aV) 2 14 1]) (e:=0) HX.bI nU dQ.1 gI.1 gI.2 ji fG2 dC) rfl kR kR (λv' w152 hv=>?_)
   | refine fO Sc 26 [] rfl kR (eZ (T:=tG1) (li:=lG2) (lw:=[gV (bT aV) 2 7 (-1),gV (bT aV) 2 14 1]) (e:=0) HX.aJ.bI nU dQ.1 gI.1 gI.2 ji fG2 dC) rfl kR kR (λv' w152 hv=>?_)
   obtain⟨rfl,HY⟩:=hv;rw[gZ dQ.2.2.1];refine⟨sT,?_⟩;refine GS (Gn rfl (λ_=>Gives.not rfl) ?_);refine Za1 ?_;refine dP Sc kR ?_;refine aU (Cd rfl (λIe=>?_) (λIe=>?_))
   .exact Bool.noConfusion Ie
   refine Zb0 ?_;exact aG (bG,b6) tR (HY.firsts (l:=[_,_]))
  refine lN Sc 7 [(9,false),(8,true),(0,true)] (y:=.tmp 52) (fs:=[]) (cs:=[]) (vals:=[agg (aj zx),I 1,I 1,I 1]) rfl (gG zx 1 1 1) (h:=λv' w159 hv=>?_);obtain⟨y1,rfl,_,jH,F1,jA,jO⟩:=hv;have HZ:=Hz.new jH jA (λb hb=>(jO b hb).resolve_left id);refine⟨aO HZ (h:=ah (ah (aK))),?_⟩;refine jK Sc (e1:=4) (e2:=10) kR ?_ ?_
  .refine dI Sc 4 [(9,false),(8,true),(0,true)] HZ (xs:=[.tmp 48,.tmp 49,.tmp 50]) (out:=[(x1,1),(x2,1),(x3,1)].flatMap av) (bE.many rfl rfl (bE.many rfl rfl (bE.many rfl rfl bE.nil))) rfl rfl rfl (h:=λbs w161 H_=>?_)
   (have H_:=AP H_.fF.fF.fF.bN)
   refine⟨aO H_ (h:=ah (ah (aK))),?_⟩;refine jc Sc 10 _ (y:=.tmp 55) (fs:=[]) (cs:=[]) (vals:=[agg (aj (bT aV)),I 2,I 7,I 1]) rfl (gG (bT aV) 2 7 1) (h:=λv' w163 hv=>?_);obtain⟨y2,rfl,_,jH,F1,jA,jO⟩:=hv;have H163:=H_.new jH jA (λb hb=>(jO b hb).resolve_left id);refine⟨sT,?_⟩;refine bU Sc 11 _ H163 (xs:=[.tmp 54,.tmp 57]) (out:=[(y1,1),(y2,1)].flatMap av) (bE.many rfl rfl (bE.many rfl rfl bE.nil)) rfl rfl rfl (h:=λbq w165 H165=>?_)
   (have H165:=eu H165.bN.bF.bF)
   refine⟨sT,?_⟩
   first
   | refine fO Sc 12 [] rfl kR (eZ (li:=lG1) (lw:=[gV zx 1 1 1,gV (bT aV) 2 7 1]) (e:=0) H165.fF.bF.bF.bI nU dQ.1 gI.1 gI.2 (holds_nil plG) fG1 dC) rfl kR kR (λv' w167 hv=>?_)
   | refine fO Sc 12 [] rfl kR (eZ (li:=lG1) (lw:=[gV zx 1 1 1,gV (bT aV) 2 7 1]) (e:=0) H165.fF.aJ.bF.bI nU dQ.1 gI.1 gI.2 (holds_nil plG) fG1 dC) rfl kR kR (λv' w167 hv=>?_)
   obtain⟨rfl,H167⟩:=hv;rw[gZ dQ.2.1];refine⟨sT,?_⟩;refine GS (Gn rfl (λ_=>Gives.not rfl) ?_);refine Zb1 ?_;refine AV (t:=61) rfl (λSe=>?_) (λSe=>?_)
   .exact Bool.noConfusion Se
   refine Zb1 ?_;refine Gm Sc 19 ?_;refine Zb1 ?_;refine Gm Sc 22 ?_;refine Zb1 ?_;refine dL Sc 16 [(23,false),(22,true),(20,false),(19,true),(15,true)] H167 (nk 2 (-1) aV) (h:=λx4 w174 _ H174 ks=>⟨aO H174 (h:=ah (aO H174 (h:=ah (ah (aK))))),?_⟩);refine dL Sc 17 [(23,false),(22,true),(20,false),(19,true),(15,true)] H174 (nk 9 1 aV) (h:=λx5 w176 _ H176 kt=>⟨aO H176 (h:=ah (aO H176 (h:=ah (ah (aK))))),?_⟩);refine jK Sc (e1:=18) (e2:=21) kR ?_ ?_
   .refine dI Sc 18 [(23,false),(22,true),(20,false),(19,true),(15,true)] H176 (xs:=[.tmp 63,.tmp 64]) (out:=[(x4, -1),(x5,1)].flatMap av) (bE.many rfl rfl (bE.many rfl rfl bE.nil)) rfl rfl rfl (h:=λbs3 w178 H178=>?_)
    (have H178:=eu H178)
    refine⟨aO H178 (h:=ah (aO H178 (h:=ah (ah (aK))))),?_⟩;refine jc Sc 21 [(23,false),(22,true),(15,true)] (y:=.tmp 66) (fs:=[]) (cs:=[]) (vals:=[agg (aj (bT aV)),I 2,I 7,I (-1)]) rfl (gG (bT aV) 2 7 (-1)) (h:=λv' w180 hv=>?_);obtain⟨y3,rfl,_,jH,F1,jA,jO⟩:=hv;have H180:=H178.new jH jA (λb hb=>(jO b hb).resolve_left id);refine⟨aO H180 (h:=ah (ah (aK))),?_⟩;refine jc Sc 24 _ (y:=.tmp 69) (fs:=[]) (cs:=[]) (vals:=[agg (aj (bT aV)),I 2,I 14,I 1]) rfl (gG (bT aV) 2 14 1) (h:=λv' w182 hv=>?_);obtain⟨y4,rfl,_,jH,F1,jA,jO⟩:=hv;have H182:=H180.new jH jA (λb hb=>(jO b hb).resolve_left id);refine⟨sT,?_⟩;refine bU Sc 25 _ H182 (xs:=[.tmp 68,.tmp 71]) (out:=[(y3, -1),(y4,1)].flatMap av) (bE.many rfl rfl (bE.many rfl rfl bE.nil)) rfl rfl rfl (h:=λbq2 w184 H184=>?_)
    (have H184:=eu H184)
    refine⟨sT,?_⟩
    first
    | refine fO Sc 26 [] rfl kR (eZ (T:=tG1) (li:=lG2) (lw:=[gV (bT aV) 2 7 (-1),gV (bT aV) 2 14 1]) (e:=0) H184.bI nU dQ.1 gI.1 gI.2 ji fG2 dC) rfl kR kR (λv' w186 hv=>?_)
    | refine fO Sc 26 [] rfl kR (eZ (T:=tG1) (li:=lG2) (lw:=[gV (bT aV) 2 7 (-1),gV (bT aV) 2 14 1]) (e:=0) H184.aJ.bI nU dQ.1 gI.1 gI.2 ji fG2 dC) rfl kR kR (λv' w186 hv=>?_)
    obtain⟨rfl,H186⟩:=hv;rw[gZ dQ.2.2.1];refine⟨sT,?_⟩;refine GS (Gn rfl (λ_=>Gives.not rfl) ?_);refine Za1 ?_;refine dP Sc kR ?_;refine aU (Cd rfl (λIf=>?_) (λIf=>?_))
    .exact Bool.noConfusion If
    refine Zb0 ?_;exact aG (bG,b6) tR (H186.firsts (l:=[_,_]))
   refine lN Sc 21 [(23,false),(22,true),(15,true)] (y:=.tmp 66) (fs:=[]) (cs:=[]) (vals:=[agg (aj (bT aV)),I 2,I 7,I (-1)]) rfl (gG (bT aV) 2 7 (-1)) (h:=λv' w193 hv=>?_);obtain⟨y3,rfl,_,jH,F1,jA,jO⟩:=hv;have H193:=H176.new jH jA (λb hb=>(jO b hb).resolve_left id);refine⟨aO H193 (h:=ah (ah (aK))),?_⟩;refine jK Sc (e1:=18) (e2:=24) kR ?_ ?_
   .refine dI Sc 18 [(23,false),(22,true),(15,true)] H193 (xs:=[.tmp 63,.tmp 64]) (out:=[(x4, -1),(x5,1)].flatMap av) (bE.many rfl rfl (bE.many rfl rfl bE.nil)) rfl rfl rfl (h:=λbs3 w195 H195=>?_)
    (have H195:=eu H195.bN.bN.bF)
    refine⟨aO H195 (h:=ah (ah (aK))),?_⟩;refine jc Sc 24 _ (y:=.tmp 69) (fs:=[]) (cs:=[]) (vals:=[agg (aj (bT aV)),I 2,I 14,I 1]) rfl (gG (bT aV) 2 14 1) (h:=λv' w197 hv=>?_);obtain⟨y4,rfl,_,jH,F1,jA,jO⟩:=hv;have H197:=H195.new jH jA (λb hb=>(jO b hb).resolve_left id);refine⟨sT,?_⟩;refine bU Sc 25 _ H197 (xs:=[.tmp 68,.tmp 71]) (out:=[(y3, -1),(y4,1)].flatMap av) (bE.many rfl rfl (bE.many rfl rfl bE.nil)) rfl rfl rfl (h:=λbq2 w199 H199=>?_)
    (have H199:=eu H199.bN.bF.bF)
    refine⟨sT,?_⟩
    first
    | refine fO Sc 26 [] rfl kR (eZ (T:=tG1) (li:=lG2) (lw:=[gV (bT aV) 2 7 (-1),gV (bT aV) 2 14 1]) (e:=0) H199.bI nU dQ.1 gI.1 gI.2 ji fG2 dC) rfl kR kR (λv' w201 hv=>?_)
    | refine fO Sc 26 [] rfl kR (eZ (T:=tG1) (li:=lG2) (lw:=[gV (bT aV) 2 7 (-1),gV (bT aV) 2 14 1]) (e:=0) H199.aJ.bI nU dQ.1 gI.1 gI.2 ji fG2 dC) rfl kR kR (λv' w201 hv=>?_)
    obtain⟨rfl,H201⟩:=hv;rw[gZ dQ.2.2.1];refine⟨sT,?_⟩;refine GS (Gn rfl (λ_=>Gives.not rfl) ?_);refine Za1 ?_;refine dP Sc kR ?_;refine aU (Cd rfl (λIg=>?_) (λIg=>?_))
    .exact Bool.noConfusion Ig
    refine Zb0 ?_;exact aG (bG,b6) tR (H201.firsts (l:=[_,_]))
   refine lN Sc 24 _ (y:=.tmp 69) (fs:=[]) (cs:=[]) (vals:=[agg (aj (bT aV)),I 2,I 14,I 1]) rfl (gG (bT aV) 2 14 1) (h:=λv' w208 hv=>?_);obtain⟨y4,rfl,_,jH,F1,jA,jO⟩:=hv;have H208:=H193.new jH jA (λb hb=>(jO b hb).resolve_left id);refine⟨sT,?_⟩;refine jK Sc (e1:=18) (e2:=25) kR ?_ ?_
   .refine dI Sc 18 _ H208 (xs:=[.tmp 63,.tmp 64]) (out:=[(x4, -1),(x5,1)].flatMap av) (bE.many rfl rfl (bE.many rfl rfl bE.nil)) rfl rfl rfl (h:=λbs3 w210 H210=>?_)
    (have H210:=eu H210.fF.fF.bF)
    refine⟨sT,?_⟩;refine bU Sc 25 _ H210 (xs:=[.tmp 68,.tmp 71]) (out:=[(y3, -1),(y4,1)].flatMap av) (bE.many rfl rfl (bE.many rfl rfl bE.nil)) rfl rfl rfl (h:=λbq2 w212 H212=>?_)
    (have H212:=eu H212.bN.bN.bF)
    refine⟨sT,?_⟩
    first
    | refine fO Sc 26 [] rfl kR (eZ (T:=tG1) (li:=lG2) (lw:=[gV (bT aV) 2 7 (-1),gV (bT aV) 2 14 1]) (e:=0) H212.bI nU dQ.1 gI.1 gI.2 ji fG2 dC) rfl kR kR (λv' w214 hv=>?_)
    | refine fO Sc 26 [] rfl kR (eZ (T:=tG1) (li:=lG2) (lw:=[gV (bT aV) 2 7 (-1),gV (bT aV) 2 14 1]) (e:=0) H212.aJ.bI nU dQ.1 gI.1 gI.2 ji fG2 dC) rfl kR kR (λv' w214 hv=>?_)
    obtain⟨rfl,H214⟩:=hv;rw[gZ dQ.2.2.1];refine⟨sT,?_⟩;refine GS (Gn rfl (λ_=>Gives.not rfl) ?_);refine Za1 ?_;refine dP Sc kR ?_;refine aU (Cd rfl (λIh=>?_) (λIh=>?_))
    .exact Bool.noConfusion Ih
    refine Zb0 ?_;exact aG (bG,b6) tR (H214.firsts (l:=[_,_]))
   refine dI Sc 25 _ H208 (xs:=[.tmp 68,.tmp 71]) (out:=[(y3, -1),(y4,1)].flatMap av) (bE.many rfl rfl (bE.many rfl rfl bE.nil)) rfl rfl rfl (h:=λbq2 w221 H221=>?_)
   (have H221:=eu H221)
   refine⟨sT,?_⟩;refine bU Sc 18 _ H221 (xs:=[.tmp 63,.tmp 64]) (out:=[(x4, -1),(x5,1)].flatMap av) (bE.many rfl rfl (bE.many rfl rfl bE.nil)) rfl rfl rfl (h:=λbs3 w223 H223=>?_)
   (have H223:=eu H223.bN.bN.bF)
   refine⟨sT,?_⟩
   first
   | refine fO Sc 26 [] rfl kR (eZ (T:=tG1) (li:=lG2) (lw:=[gV (bT aV) 2 7 (-1),gV (bT aV) 2 14 1]) (e:=0) H223.bI nU dQ.1 gI.1 gI.2 ji fG2 dC) rfl kR kR (λv' w225 hv=>?_)
   | refine fO Sc 26 [] rfl kR (eZ (T:=tG1) (li:=lG2) (lw:=[gV (bT aV) 2 7 (-1),gV (bT aV) 2 14 1]) (e:=0) H223.aJ.bI nU dQ.1 gI.1 gI.2 ji fG2 dC) rfl kR kR (λv' w225 hv=>?_)
   obtain⟨rfl,H225⟩:=hv;rw[gZ dQ.2.2.1];refine⟨sT,?_⟩;refine GS (Gn rfl (λ_=>Gives.not rfl) ?_);refine Za1 ?_;refine dP Sc kR ?_;refine aU (Cd rfl (λIi=>?_) (λIi=>?_))
   .exact Bool.noConfusion Ii
   refine Zb0 ?_;exact aG (bG,b6) tR (H225.firsts (l:=[_,_]))
  refine lN Sc 10 _ (y:=.tmp 55) (fs:=[]) (cs:=[]) (vals:=[agg (aj (bT aV)),I 2,I 7,I 1]) rfl (gG (bT aV) 2 7 1) (h:=λv' w232 hv=>?_);obtain⟨y2,rfl,_,jH,F1,jA,jO⟩:=hv;have H232:=HZ.new jH jA (λb hb=>(jO b hb).resolve_left id);refine⟨sT,?_⟩;refine jK Sc (e1:=4) (e2:=11) kR ?_ ?_
  .refine dI Sc 4 _ H232 (xs:=[.tmp 48,.tmp 49,.tmp 50]) (out:=[(x1,1),(x2,1),(x3,1)].flatMap av) (bE.many rfl rfl (bE.many rfl rfl (bE.many rfl rfl bE.nil))) rfl rfl rfl (h:=λbs w234 H234=>?_)
   (have H234:=AP H234.mX.mX.mX.bN)
   refine⟨sT,?_⟩;refine bU Sc 11 _ H234 (xs:=[.tmp 54,.tmp 57]) (out:=[(y1,1),(y2,1)].flatMap av) (bE.many rfl rfl (bE.many rfl rfl bE.nil)) rfl rfl rfl (h:=λbq w236 H236=>?_)
   (have H236:=eu H236.bN.bN.bF)
   refine⟨sT,?_⟩
   first
   | refine fO Sc 12 [] rfl kR (eZ (li:=lG1) (lw:=[gV zx 1 1 1,gV (bT aV) 2 7 1]) (e:=0) H236.fF.bF.bF.bI nU dQ.1 gI.1 gI.2 (holds_nil plG) fG1 dC) rfl kR kR (λv' w238 hv=>?_)
   | refine fO Sc 12 [] rfl kR (eZ (li:=lG1) (lw:=[gV zx 1 1 1,gV (bT aV) 2 7 1]) (e:=0) H236.fF.aJ.bF.bI nU dQ.1 gI.1 gI.2 (holds_nil plG) fG1 dC) rfl kR kR (λv' w238 hv=>?_)
   obtain⟨rfl,H238⟩:=hv;rw[gZ dQ.2.1];refine⟨sT,?_⟩;refine GS (Gn rfl (λ_=>Gives.not rfl) ?_);refine Zb1 ?_;refine AV (t:=61) rfl (λSf=>?_) (λSf=>?_)
   .exact Bool.noConfusion Sf
   refine Zb1 ?_;refine Gm Sc 19 ?_;refine Zb1 ?_;refine Gm Sc 22 ?_;refine Zb1 ?_;refine dL Sc 16 [(23,false),(22,true),(20,false),(19,true),(15,true)] H238 (nk 2 (-1) aV) (h:=λx4 w245 _ H245 ku=>⟨aO H245 (h:=ah (aO H245 (h:=ah (ah (aK))))),?_⟩);refine dL Sc 17 [(23,false),(22,true),(20,false),(19,true),(15,true)] H245 (nk 9 1 aV) (h:=λx5 w247 _ H247 kv=>⟨aO H247 (h:=ah (aO H247 (h:=ah (ah (aK))))),?_⟩);refine jK Sc (e1:=18) (e2:=21) kR ?_ ?_
   .refine dI Sc 18 [(23,false),(22,true),(20,false),(19,true),(15,true)] H247 (xs:=[.tmp 63,.tmp 64]) (out:=[(x4, -1),(x5,1)].flatMap av) (bE.many rfl rfl (bE.many rfl rfl bE.nil)) rfl rfl rfl (h:=λbs3 w249 H249=>?_)
    (have H249:=eu H249)
    refine⟨aO H249 (h:=ah (aO H249 (h:=ah (ah (aK))))),?_⟩;refine jc Sc 21 [(23,false),(22,true),(15,true)] (y:=.tmp 66) (fs:=[]) (cs:=[]) (vals:=[agg (aj (bT aV)),I 2,I 7,I (-1)]) rfl (gG (bT aV) 2 7 (-1)) (h:=λv' w251 hv=>?_);obtain⟨y3,rfl,_,jH,F1,jA,jO⟩:=hv;have H251:=H249.new jH jA (λb hb=>(jO b hb).resolve_left id);refine⟨aO H251 (h:=ah (ah (aK))),?_⟩;refine jc Sc 24 _ (y:=.tmp 69) (fs:=[]) (cs:=[]) (vals:=[agg (aj (bT aV)),I 2,I 14,I 1]) rfl (gG (bT aV) 2 14 1) (h:=λv' w253 hv=>?_);obtain⟨y4,rfl,_,jH,F1,jA,jO⟩:=hv;have H253:=H251.new jH jA (λb hb=>(jO b hb).resolve_left id);refine⟨sT,?_⟩;refine bU Sc 25 _ H253 (xs:=[.tmp 68,.tmp 71]) (out:=[(y3, -1),(y4,1)].flatMap av) (bE.many rfl rfl (bE.many rfl rfl bE.nil)) rfl rfl rfl (h:=λbq2 w255 H255=>?_)
    (have H255:=eu H255)
    refine⟨sT,?_⟩
    first
    | refine fO Sc 26 [] rfl kR (eZ (T:=tG1) (li:=lG2) (lw:=[gV (bT aV) 2 7 (-1),gV (bT aV) 2 14 1]) (e:=0) H255.bI nU dQ.1 gI.1 gI.2 ji fG2 dC) rfl kR kR (λv' w257 hv=>?_)
    | refine fO Sc 26 [] rfl kR (eZ (T:=tG1) (li:=lG2) (lw:=[gV (bT aV) 2 7 (-1),gV (bT aV) 2 14 1]) (e:=0) H255.aJ.bI nU dQ.1 gI.1 gI.2 ji fG2 dC) rfl kR kR (λv' w257 hv=>?_)
    obtain⟨rfl,H257⟩:=hv;rw[gZ dQ.2.2.1];refine⟨sT,?_⟩;refine GS (Gn rfl (λ_=>Gives.not rfl) ?_);refine Za1 ?_;refine dP Sc kR ?_;refine aU (Cd rfl (λIj=>?_) (λIj=>?_))
    .exact Bool.noConfusion Ij
    refine Zb0 ?_;exact aG (bG,b6) tR (H257.firsts (l:=[_,_]))
   refine lN Sc 21 [(23,false),(22,true),(15,true)] (y:=.tmp 66) (fs:=[]) (cs:=[]) (vals:=[agg (aj (bT aV)),I 2,I 7,I (-1)]) rfl (gG (bT aV) 2 7 (-1)) (h:=λv' w264 hv=>?_);obtain⟨y3,rfl,_,jH,F1,jA,jO⟩:=hv;have H264:=H247.new jH jA (λb hb=>(jO b hb).resolve_left id);refine⟨aO H264 (h:=ah (ah (aK))),?_⟩;refine jK Sc (e1:=18) (e2:=24) kR ?_ ?_
   .refine dI Sc 18 [(23,false),(22,true),(15,true)] H264 (xs:=[.tmp 63,.tmp 64]) (out:=[(x4, -1),(x5,1)].flatMap av) (bE.many rfl rfl (bE.many rfl rfl bE.nil)) rfl rfl rfl (h:=λbs3 w266 H266=>?_)
    (have H266:=eu H266.bN.bN.bF)
    refine⟨aO H266 (h:=ah (ah (aK))),?_⟩;refine jc Sc 24 _ (y:=.tmp 69) (fs:=[]) (cs:=[]) (vals:=[agg (aj (bT aV)),I 2,I 14,I 1]) rfl (gG (bT aV) 2 14 1) (h:=λv' w268 hv=>?_);obtain⟨y4,rfl,_,jH,F1,jA,jO⟩:=hv;have H268:=H266.new jH jA (λb hb=>(jO b hb).resolve_left id);refine⟨sT,?_⟩;refine bU Sc 25 _ H268 (xs:=[.tmp 68,.tmp 71]) (out:=[(y3, -1),(y4,1)].flatMap av) (bE.many rfl rfl (bE.many rfl rfl bE.nil)) rfl rfl rfl (h:=λbq2 w270 H270=>?_)
    (have H270:=eu H270.bN.bF.bF)
    refine⟨sT,?_⟩
    first
    | refine fO Sc 26 [] rfl kR (eZ (T:=tG1) (li:=lG2) (lw:=[gV (bT aV) 2 7 (-1),gV (bT aV) 2 14 1]) (e:=0) H270.bI nU dQ.1 gI.1 gI.2 ji fG2 dC) rfl kR kR (λv' w272 hv=>?_)
    | refine fO Sc 26 [] rfl kR (eZ (T:=tG1) (li:=lG2) (lw:=[gV (bT aV) 2 7 (-1),gV (bT aV) 2 14 1]) (e:=0) H270.aJ.bI nU dQ.1 gI.1 gI.2 ji fG2 dC) rfl kR kR (λv' w272 hv=>?_)
    obtain⟨rfl,H272⟩:=hv;rw[gZ dQ.2.2.1];refine⟨sT,?_⟩;refine GS (Gn rfl (λ_=>Gives.not rfl) ?_);refine Za1 ?_;refine dP Sc kR ?_;refine aU (Cd rfl (λIk=>?_) (λIk=>?_))
    .exact Bool.noConfusion Ik
    refine Zb0 ?_;exact aG (bG,b6) tR (H272.firsts (l:=[_,_]))
   refine lN Sc 24 _ (y:=.tmp 69) (fs:=[]) (cs:=[]) (vals:=[agg (aj (bT aV)),I 2,I 14,I 1]) rfl (gG (bT aV) 2 14 1) (h:=λv' w279 hv=>?_);obtain⟨y4,rfl,_,jH,F1,jA,jO⟩:=hv;have H279:=H264.new jH jA (λb hb=>(jO b hb).resolve_left id);refine⟨sT,?_⟩;refine jK Sc (e1:=18) (e2:=25) kR ?_ ?_
   .refine dI Sc 18 _ H279 (xs:=[.tmp 63,.tmp 64]) (out:=[(x4, -1),(x5,1)].flatMap av) (bE.many rfl rfl (bE.many rfl rfl bE.nil)) rfl rfl rfl (h:=λbs3 w281 H281=>?_)
    (have H281:=eu H281.fF.fF.bF)
    refine⟨sT,?_⟩;refine bU Sc 25 _ H281 (xs:=[.tmp 68,.tmp 71]) (out:=[(y3, -1),(y4,1)].flatMap av) (bE.many rfl rfl (bE.many rfl rfl bE.nil)) rfl rfl rfl (h:=λbq2 w283 H283=>?_)
    (have H283:=eu H283.bN.bN.bF)
    refine⟨sT,?_⟩
    first
    | refine fO Sc 26 [] rfl kR (eZ (T:=tG1) (li:=lG2) (lw:=[gV (bT aV) 2 7 (-1),gV (bT aV) 2 14 1]) (e:=0) H283.bI nU dQ.1 gI.1 gI.2 ji fG2 dC) rfl kR kR (λv' w285 hv=>?_)
    | refine fO Sc 26 [] rfl kR (eZ (T:=tG1) (li:=lG2) (lw:=[gV (bT aV) 2 7 (-1),gV (bT aV) 2 14 1]) (e:=0) H283.aJ.bI nU dQ.1 gI.1 gI.2 ji fG2 dC) rfl kR kR (λv' w285 hv=>?_)
    obtain⟨rfl,H285⟩:=hv;rw[gZ dQ.2.2.1];refine⟨sT,?_⟩;refine GS (Gn rfl (λ_=>Gives.not rfl) ?_);refine Za1 ?_;refine dP Sc kR ?_;refine aU (Cd rfl (λIl=>?_) (λIl=>?_))
    .exact Bool.noConfusion Il
    refine Zb0 ?_;exact aG (bG,b6) tR (H285.firsts (l:=[_,_]))
   refine dI Sc 25 _ H279 (xs:=[.tmp 68,.tmp 71]) (out:=[(y3, -1),(y4,1)].flatMap av) (bE.many rfl rfl (bE.many rfl rfl bE.nil)) rfl rfl rfl (h:=λbq2 w292 H292=>?_)
   (have H292:=eu H292)
   refine⟨sT,?_⟩;refine bU Sc 18 _ H292 (xs:=[.tmp 63,.tmp 64]) (out:=[(x4, -1),(x5,1)].flatMap av) (bE.many rfl rfl (bE.many rfl rfl bE.nil)) rfl rfl rfl (h:=λbs3 w294 H294=>?_)
   (have H294:=eu H294.bN.bN.bF)
   refine⟨sT,?_⟩
   first
   | refine fO Sc 26 [] rfl kR (eZ (T:=tG1) (li:=lG2) (lw:=[gV (bT aV) 2 7 (-1),gV (bT aV) 2 14 1]) (e:=0) H294.bI nU dQ.1 gI.1 gI.2 ji fG2 dC) rfl kR kR (λv' w296 hv=>?_)
   | refine fO Sc 26 [] rfl kR (eZ (T:=tG1) (li:=lG2) (lw:=[gV (bT aV) 2 7 (-1),gV (bT aV) 2 14 1]) (e:=0) H294.aJ.bI nU dQ.1 gI.1 gI.2 ji fG2 dC) rfl kR kR (λv' w296 hv=>?_)
   obtain⟨rfl,H296⟩:=hv;rw[gZ dQ.2.2.1];refine⟨sT,?_⟩;refine GS (Gn rfl (λ_=>Gives.not rfl) ?_);refine Za1 ?_;refine dP Sc kR ?_;refine aU (Cd rfl (λIm=>?_) (λIm=>?_))
   .exact Bool.noConfusion Im
   refine Zb0 ?_;exact aG (bG,b6) tR (H296.firsts (l:=[_,_]))
  refine dI Sc 11 _ H232 (xs:=[.tmp 54,.tmp 57]) (out:=[(y1,1),(y2,1)].flatMap av) (bE.many rfl rfl (bE.many rfl rfl bE.nil)) rfl rfl rfl (h:=λbq w303 H303=>?_)
  (have H303:=eu H303)
  refine⟨sT,?_⟩;refine bU Sc 4 _ H303 (xs:=[.tmp 48,.tmp 49,.tmp 50]) (out:=[(x1,1),(x2,1),(x3,1)].flatMap av) (bE.many rfl rfl (bE.many rfl rfl (bE.many rfl rfl bE.nil))) rfl rfl rfl (h:=λbs w305 H305=>?_)
  (have H305:=AP H305.fF.fF.fF.bN)
  refine⟨sT,?_⟩
  first
  | refine fO Sc 12 [] rfl kR (eZ (li:=lG1) (lw:=[gV zx 1 1 1,gV (bT aV) 2 7 1]) (e:=0) H305.fF.bF.bF.bI nU dQ.1 gI.1 gI.2 (holds_nil plG) fG1 dC) rfl kR kR (λv' w307 hv=>?_)
  | refine fO Sc 12 [] rfl kR (eZ (li:=lG1) (lw:=[gV zx 1 1 1,gV (bT aV) 2 7 1]) (e:=0) H305.fF.aJ.bF.bI nU dQ.1 gI.1 gI.2 (holds_nil plG) fG1 dC) rfl kR kR (λv' w307 hv=>?_)
  obtain⟨rfl,H307⟩:=hv;rw[gZ dQ.2.1];refine⟨sT,?_⟩;refine GS (Gn rfl (λ_=>Gives.not rfl) ?_);refine Zb1 ?_;refine AV (t:=61) rfl (λSg=>?_) (λSg=>?_)
  .exact Bool.noConfusion Sg
  refine Zb1 ?_;refine Gm Sc 19 ?_;refine Zb1 ?_;refine Gm Sc 22 ?_;refine Zb1 ?_;refine dL Sc 16 [(23,false),(22,true),(20,false),(19,true),(15,true)] H307 (nk 2 (-1) aV) (h:=λx4 w314 _ H314 kw=>⟨aO H314 (h:=ah (aO H314 (h:=ah (ah (aK))))),?_⟩);refine dL Sc 17 [(23,false),(22,true),(20,false),(19,true),(15,true)] H314 (nk 9 1 aV) (h:=λx5 w316 _ H316 kx=>⟨aO H316 (h:=ah (aO H316 (h:=ah (ah (aK))))),?_⟩);refine jK Sc (e1:=18) (e2:=21) kR ?_ ?_
  .refine dI Sc 18 [(23,false),(22,true),(20,false),(19,true),(15,true)] H316 (xs:=[.tmp 63,.tmp 64]) (out:=[(x4, -1),(x5,1)].flatMap av) (bE.many rfl rfl (bE.many rfl rfl bE.nil)) rfl rfl rfl (h:=λbs3 w318 H318=>?_)
   (have H318:=eu H318)
   refine⟨aO H318 (h:=ah (aO H318 (h:=ah (ah (aK))))),?_⟩;refine jc Sc 21 [(23,false),(22,true),(15,true)] (y:=.tmp 66) (fs:=[]) (cs:=[]) (vals:=[agg (aj (bT aV)),I 2,I 7,I (-1)]) rfl (gG (bT aV) 2 7 (-1)) (h:=λv' w320 hv=>?_);obtain⟨y3,rfl,_,jH,F1,jA,jO⟩:=hv;have H320:=H318.new jH jA (λb hb=>(jO b hb).resolve_left id);refine⟨aO H320 (h:=ah (ah (aK))),?_⟩;refine jc Sc 24 _ (y:=.tmp 69) (fs:=[]) (cs:=[]) (vals:=[agg (aj (bT aV)),I 2,I 14,I 1]) rfl (gG (bT aV) 2 14 1) (h:=λv' w322 hv=>?_);obtain⟨y4,rfl,_,jH,F1,jA,jO⟩:=hv;have H322:=H320.new jH jA (λb hb=>(jO b hb).resolve_left id);refine⟨sT,?_⟩;refine bU Sc 25 _ H322 (xs:=[.tmp 68,.tmp 71]) (out:=[(y3, -1),(y4,1)].flatMap av) (bE.many rfl rfl (bE.many rfl rfl bE.nil)) rfl rfl rfl (h:=λbq2 w324 H324=>?_)
   (have H324:=eu H324)
   refine⟨sT,?_⟩
   first
   | refine fO Sc 26 [] rfl kR (eZ (T:=tG1) (li:=lG2) (lw:=[gV (bT aV) 2 7 (-1),gV (bT aV) 2 14 1]) (e:=0) H324.bI nU dQ.1 gI.1 gI.2 ji fG2 dC) rfl kR kR (λv' w326 hv=>?_)
   | refine fO Sc 26 [] rfl kR (eZ (T:=tG1) (li:=lG2) (lw:=[gV (bT aV) 2 7 (-1),gV (bT aV) 2 14 1]) (e:=0) H324.aJ.bI nU dQ.1 gI.1 gI.2 ji fG2 dC) rfl kR kR (λv' w326 hv=>?_)
   obtain⟨rfl,H326⟩:=hv;rw[gZ dQ.2.2.1];refine⟨sT,?_⟩;refine GS (Gn rfl (λ_=>Gives.not rfl) ?_);refine Za1 ?_;refine dP Sc kR ?_;refine aU (Cd rfl (λIn=>?_) (λIn=>?_))
   .exact Bool.noConfusion In
   refine Zb0 ?_;exact aG (bG,b6) tR (H326.firsts (l:=[_,_]))
  refine lN Sc 21 [(23,false),(22,true),(15,true)] (y:=.tmp 66) (fs:=[]) (cs:=[]) (vals:=[agg (aj (bT aV)),I 2,I 7,I (-1)]) rfl (gG (bT aV) 2 7 (-1)) (h:=λv' w333 hv=>?_);obtain⟨y3,rfl,_,jH,F1,jA,jO⟩:=hv;have H333:=H316.new jH jA (λb hb=>(jO b hb).resolve_left id);refine⟨aO H333 (h:=ah (ah (aK))),?_⟩;refine jK Sc (e1:=18) (e2:=24) kR ?_ ?_
  .refine dI Sc 18 [(23,false),(22,true),(15,true)] H333 (xs:=[.tmp 63,.tmp 64]) (out:=[(x4, -1),(x5,1)].flatMap av) (bE.many rfl rfl (bE.many rfl rfl bE.nil)) rfl rfl rfl (h:=λbs3 w335 H335=>?_)
   (have H335:=eu H335.bN.bN.bF)
   refine⟨aO H335 (h:=ah (ah (aK))),?_⟩;refine jc Sc 24 _ (y:=.tmp 69) (fs:=[]) (cs:=[]) (vals:=[agg (aj (bT aV)),I 2,I 14,I 1]) rfl (gG (bT aV) 2 14 1) (h:=λv' w337 hv=>?_);obtain⟨y4,rfl,_,jH,F1,jA,jO⟩:=hv;have H337:=H335.new jH jA (λb hb=>(jO b hb).resolve_left id);refine⟨sT,?_⟩;refine bU Sc 25 _ H337 (xs:=[.tmp 68,.tmp 71]) (out:=[(y3, -1),(y4,1)].flatMap av) (bE.many rfl rfl (bE.many rfl rfl bE.nil)) rfl rfl rfl (h:=λbq2 w339 H339=>?_)
   (have H339:=eu H339.bN.bF.bF)
   refine⟨sT,?_⟩
   first
   | refine fO Sc 26 [] rfl kR (eZ (T:=tG1) (li:=lG2) (lw:=[gV (bT aV) 2 7 (-1),gV (bT aV) 2 14 1]) (e:=0) H339.bI nU dQ.1 gI.1 gI.2 ji fG2 dC) rfl kR kR (λv' w341 hv=>?_)
   | refine fO Sc 26 [] rfl kR (eZ (T:=tG1) (li:=lG2) (lw:=[gV (bT aV) 2 7 (-1),gV (bT aV) 2 14 1]) (e:=0) H339.aJ.bI nU dQ.1 gI.1 gI.2 ji fG2 dC) rfl kR kR (λv' w341 hv=>?_)
   obtain⟨rfl,H341⟩:=hv;rw[gZ dQ.2.2.1];refine⟨sT,?_⟩;refine GS (Gn rfl (λ_=>Gives.not rfl) ?_);refine Za1 ?_;refine dP Sc kR ?_;refine aU (Cd rfl (λIo=>?_) (λIo=>?_))
   .exact Bool.noConfusion Io
   refine Zb0 ?_;exact aG (bG,b6) tR (H341.firsts (l:=[_,_]))
  refine lN Sc 24 _ (y:=.tmp 69) (fs:=[]) (cs:=[]) (vals:=[agg (aj (bT aV)),I 2,I 14,I 1]) rfl (gG (bT aV) 2 14 1) (h:=λv' w348 hv=>?_);obtain⟨y4,rfl,_,jH,F1,jA,jO⟩:=hv;have H348:=H333.new jH jA (λb hb=>(jO b hb).resolve_left id);refine⟨sT,?_⟩;refine jK Sc (e1:=18) (e2:=25) kR ?_ ?_
  .refine dI Sc 18 _ H348 (xs:=[.tmp 63,.tmp 64]) (out:=[(x4, -1),(x5,1)].flatMap av) (bE.many rfl rfl (bE.many rfl rfl bE.nil)) rfl rfl rfl (h:=λbs3 w350 H350=>?_)
   (have H350:=eu H350.fF.fF.bF)
   refine⟨sT,?_⟩;refine bU Sc 25 _ H350 (xs:=[.tmp 68,.tmp 71]) (out:=[(y3, -1),(y4,1)].flatMap av) (bE.many rfl rfl (bE.many rfl rfl bE.nil)) rfl rfl rfl (h:=λbq2 w352 H352=>?_)
   (have H352:=eu H352.bN.bN.bF)
   refine⟨sT,?_⟩
   first
   | refine fO Sc 26 [] rfl kR (eZ (T:=tG1) (li:=lG2) (lw:=[gV (bT aV) 2 7 (-1),gV (bT aV) 2 14 1]) (e:=0) H352.bI nU dQ.1 gI.1 gI.2 ji fG2 dC) rfl kR kR (λv' w354 hv=>?_)
   | refine fO Sc 26 [] rfl kR (eZ (T:=tG1) (li:=lG2) (lw:=[gV (bT aV) 2 7 (-1),gV (bT aV) 2 14 1]) (e:=0) H352.aJ.bI nU dQ.1 gI.1 gI.2 ji fG2 dC) rfl kR kR (λv' w354 hv=>?_)
   obtain⟨rfl,H354⟩:=hv;rw[gZ dQ.2.2.1];refine⟨sT,?_⟩;refine GS (Gn rfl (λ_=>Gives.not rfl) ?_);refine Za1 ?_;refine dP Sc kR ?_;refine aU (Cd rfl (λIp=>?_) (λIp=>?_))
   .exact Bool.noConfusion Ip
   refine Zb0 ?_;exact aG (bG,b6) tR (H354.firsts (l:=[_,_]))
  refine dI Sc 25 _ H348 (xs:=[.tmp 68,.tmp 71]) (out:=[(y3, -1),(y4,1)].flatMap av) (bE.many rfl rfl (bE.many rfl rfl bE.nil)) rfl rfl rfl (h:=λbq2 w361 H361=>?_)
  (have H361:=eu H361)
  refine⟨sT,?_⟩;refine bU Sc 18 _ H361 (xs:=[.tmp 63,.tmp 64]) (out:=[(x4, -1),(x5,1)].flatMap av) (bE.many rfl rfl (bE.many rfl rfl bE.nil)) rfl rfl rfl (h:=λbs3 w363 H363=>?_)
  (have H363:=eu H363.bN.bN.bF)
  refine⟨sT,?_⟩
  first
  | refine fO Sc 26 [] rfl kR (eZ (T:=tG1) (li:=lG2) (lw:=[gV (bT aV) 2 7 (-1),gV (bT aV) 2 14 1]) (e:=0) H363.bI nU dQ.1 gI.1 gI.2 ji fG2 dC) rfl kR kR (λv' w365 hv=>?_)
  | refine fO Sc 26 [] rfl kR (eZ (T:=tG1) (li:=lG2) (lw:=[gV (bT aV) 2 7 (-1),gV (bT aV) 2 14 1]) (e:=0) H363.aJ.bI nU dQ.1 gI.1 gI.2 ji fG2 dC) rfl kR kR (λv' w365 hv=>?_)
  obtain⟨rfl,H365⟩:=hv;rw[gZ dQ.2.2.1];refine⟨sT,?_⟩;refine GS (Gn rfl (λ_=>Gives.not rfl) ?_);refine Za1 ?_;refine dP Sc kR ?_;refine aU (Cd rfl (λIq=>?_) (λIq=>?_))
  .exact Bool.noConfusion Iq
  refine Zb0 ?_;exact aG (bG,b6) tR (H365.firsts (l:=[_,_]))
 rintro⟨bG,b6⟩ τ w372 H372;dsimp only at H372;simp only[dA,like,bB,bY];refine Sr ?_;obtain⟨hpg,_,Qk⟩:=Dz ahm;refine dx H372 (O4 txG (.inl oM) oM (hT.keep H372.kept)) (h:=λxp w374 _ H374 ky=>?_);rw[hpg]at H374 ⊢;have hPI:eG w374 xp plG:=Sep.sees H374 At0;obtain⟨vw,vc,rfl,hvw,q,hvc,_⟩:=hPI;obtain⟨W,cw,rfl,_,_⟩:=hvw;obtain⟨A,ca,rfl,_,_⟩:=hvc;refine Zb4 ?_;refine aW H374 (h:=λb7 w380 H380 kz=>?_);refine au H380 (us:=[.slice W plG.wh.length cw,.slice A q.length ca,I plG.group]) (h:=λw382 H382=>?_);refine Za2 ?_;refine Qn (iP (λx:Nat×Nat×OA×Nat=>[(4,aA x.1),(6,aA x.2.1),(10,.slice x.2.2.1 0 x.2.2.2),(11,I 100)]) (λx w'=>Mw.Sep w noB [jq x.1 tu plG tG2,blk x.2.1 (aj (bT aV)) 52] w') ?_ ?_)
 .refine Ds (λSh w388 H388=>?_)
  refine nC Sh 1 H388 (h:=?_);refine Gb Sh 2 (aj (yJ 2147483648)) ?_;refine jK Sh (e1:=0) (e2:=3) kR ?_ ?_
  .refine l9 Sh 0 [(2,true),(1,false)] H388 VA (h:=λtv w392 _ H392 kA=>⟨ah (aO H392 (h:=aK)),?_⟩)
   refine bU Sh 3 [(1,false)] H392 (xs:=[.tmp 84]) (out:=[yJ 2147483648].flatMap aj) (bE.many rfl rfl bE.nil) rfl rfl rfl (h:=λbc w394 H394=>?_);have H394:Mw.Sep w noB (bW 52 3 aj (.slice (some ⟨bc,0,none⟩) 1 1) [yJ 2147483648]::_) w394:=Sep.rM (n:=1) (s:=3) H394 At0 rfl dC;refine⟨aO H394 (h:=aK),?_⟩;refine Gb Sh 4 (av (.slice (some ⟨bc,0,none⟩) 1 1,1)) ?_;refine bU Sh 5 [(1,false)] H394 (xs:=[.tmp 86]) (out:=[(Value.slice (some ⟨bc,0,none⟩) 1 1,(1:Int))].flatMap av) (bE.many rfl rfl bE.nil) rfl rfl rfl (h:=λbi w397 H397=>?_)
   (have H397:=pU H397)
   refine⟨aO H397 (h:=aK),?_⟩;have hFG:=gI
   first
   | refine dL Sh 6 _ H397 (oW (cols:=tu) (p:=plG) (l:=lD) (lu H397 At1) dC (Sep.sees H397 At3) ⟨_,(Sep.sees H397 At0).1,(Sep.sees H397 At0).2⟩ hFG.1 hFG.2 dC dC dC fD dC (hT.keep H397.kept)) (h:=λxd w399 Wt H399 kB=>⟨sT,?_⟩)
   | refine dL Sh 6 _ H397 (oW (cols:=tu) (p:=plG) (l:=lD) (lu H397 At0) dC (Sep.sees H397 At3) ⟨_,(Sep.sees H397 At1).1,(Sep.sees H397 At1).2⟩ hFG.1 hFG.2 dC dC dC fD dC (hT.keep H397.kept)) (h:=λxd w399 Wt H399 kB=>⟨sT,?_⟩)
   refine Zb5 ?_;obtain⟨xd,L⟩:=xd;dsimp only at Wt H399;rw[dQ.2.2.2.2.2]at Wt;obtain rfl :L=[]:=zcx.1 Wt;have Hd:=H399.dG;obtain⟨XA,cX,hX,_,_⟩:=Sep.eO Hd At0;subst hX;refine aG (bG,b6,XA,cX) ⟨rfl,rfl,rfl,?_,trivial⟩ (Sep.firsts (l:=[_,_]) Hd.yL.yL);exact zaw (λe:List aH×Int=>I e.2) dQ.2.2.2.2.2
  refine dI Sh 3 [(1,false)] H388 (xs:=[.tmp 84]) (out:=[yJ 2147483648].flatMap aj) (bE.many rfl rfl bE.nil) rfl rfl rfl (h:=λbc w406 H406=>?_);have H406:Mw.Sep w noB (bW 52 3 aj (.slice (some ⟨bc,0,none⟩) 1 1) [yJ 2147483648]::_) w406:=Sep.rM (n:=1) (s:=3) H406 At0 rfl dC;refine⟨aO H406 (h:=aK),?_⟩;refine Gb Sh 4 (av (.slice (some ⟨bc,0,none⟩) 1 1,1)) ?_;refine jK Sh (e1:=0) (e2:=5) kR ?_ ?_
  .refine l9 Sh 0 [(4,true),(1,false)] H406 VA (h:=λtv w409 _ H409 kC=>⟨ah (aO H409 (h:=aK)),?_⟩)
   refine bU Sh 5 [(1,false)] H409 (xs:=[.tmp 86]) (out:=[(Value.slice (some ⟨bc,0,none⟩) 1 1,(1:Int))].flatMap av) (bE.many rfl rfl bE.nil) rfl rfl rfl (h:=λbi w411 H411=>?_)
   (have H411:=pU H411.bF.aJ)
   refine⟨aO H411 (h:=aK),?_⟩;have hFG:=gI
   first
   | refine dL Sh 6 _ H411 (oW (cols:=tu) (p:=plG) (l:=lD) (lu H411 At1) dC (Sep.sees H411 At3) ⟨_,(Sep.sees H411 At0).1,(Sep.sees H411 At0).2⟩ hFG.1 hFG.2 dC dC dC fD dC (hT.keep H411.kept)) (h:=λxd w413 Wt H413 kD=>⟨sT,?_⟩)
   | refine dL Sh 6 _ H411 (oW (cols:=tu) (p:=plG) (l:=lD) (lu H411 At0) dC (Sep.sees H411 At3) ⟨_,(Sep.sees H411 At1).1,(Sep.sees H411 At1).2⟩ hFG.1 hFG.2 dC dC dC fD dC (hT.keep H411.kept)) (h:=λxd w413 Wt H413 kD=>⟨sT,?_⟩)
   refine Zb5 ?_;obtain⟨xd,L⟩:=xd;dsimp only at Wt H413;rw[dQ.2.2.2.2.2]at Wt;obtain rfl :L=[]:=zcx.1 Wt;have Hd:=H413.dG;obtain⟨XA,cX,hX,_,_⟩:=Sep.eO Hd At0;subst hX;refine aG (bG,b6,XA,cX) ⟨rfl,rfl,rfl,?_,trivial⟩ (Sep.firsts (l:=[_,_]) Hd.yL.yL);exact zaw (λe:List aH×Int=>I e.2) dQ.2.2.2.2.2
  refine dI Sh 5 [(1,false)] H406 (xs:=[.tmp 86]) (out:=[(Value.slice (some ⟨bc,0,none⟩) 1 1,(1:Int))].flatMap av) (bE.many rfl rfl bE.nil) rfl rfl rfl (h:=λbi w420 H420=>?_)
  (have H420:=pU H420)
  refine⟨aO H420 (h:=aK),?_⟩;refine dL Sh 0 [(1,false)] H420 VA (h:=λtv w422 _ H422 kE=>⟨aO H422 (h:=aK),?_⟩);have hFG:=gI
  first
  | refine dL Sh 6 _ H422 (oW (cols:=tu) (p:=plG) (l:=lD) (lu H422 At1) dC (Sep.sees H422 At3) ⟨_,(Sep.sees H422 At0).1,(Sep.sees H422 At0).2⟩ hFG.1 hFG.2 dC dC dC fD dC (hT.keep H422.kept)) (h:=λxd w424 Wt H424 kF=>⟨sT,?_⟩)
  | refine dL Sh 6 _ H422 (oW (cols:=tu) (p:=plG) (l:=lD) (lu H422 At0) dC (Sep.sees H422 At3) ⟨_,(Sep.sees H422 At1).1,(Sep.sees H422 At1).2⟩ hFG.1 hFG.2 dC dC dC fD dC (hT.keep H422.kept)) (h:=λxd w424 Wt H424 kF=>⟨sT,?_⟩)
  refine Zb5 ?_;obtain⟨xd,L⟩:=xd;dsimp only at Wt H424;rw[dQ.2.2.2.2.2]at Wt;obtain rfl :L=[]:=zcx.1 Wt;have Hd:=H424.dG;obtain⟨XA,cX,hX,_,_⟩:=Sep.eO Hd At0;subst hX;refine aG (bG,b6,XA,cX) ⟨rfl,rfl,rfl,?_,trivial⟩ (Sep.firsts (l:=[_,_]) Hd.yL.yL);exact zaw (λe:List aH×Int=>I e.2) dQ.2.2.2.2.2
 rintro⟨bG,b6,XA,cX⟩ τ w431 H431;dsimp only at H431;simp only[dA,like,bB];refine Zb1 ?_;refine Vb (aj (yJ 1)) ?_;refine iA H431 (cs:=aj (bT aV)) (h:=?_);refine iA H431 (cs:=aj (bT aV)) (h:=?_);refine Bs H431 ([yJ 1,bT aV,bT aV].flatMap aj) (λbc w437 H437 kG=>?_);have H437:Mw.Sep w noB (bW 52 3 aj (.slice (some ⟨bc,0,none⟩) 3 3) [yJ 1,bT aV,bT aV]::_) w437:=Sep.rM (n:=3) (s:=3) H437 At0 rfl dC;refine Vb (av (.slice (some ⟨bc,0,none⟩) 3 3,1)) ?_;refine Bs H437 ([(Value.slice (some ⟨bc,0,none⟩) 3 3,(1:Int))].flatMap av) (λbi w440 H440 kH=>?_);have H440:=pU H440;have H440:=EI H440;refine aS (eZ (T:=tG2) (li:=lG3) (lw:=[]) (e:=100) H440.bI nU dQ.1 gI.1 gI.2 aho fG3 dC) rfl rfl (λv' w442 hv=>?_);obtain⟨rfl,H442⟩:=hv;rw[gZ dQ.2.2.2.1];rw[ahp]at H442;refine Vv (Gives.not rfl) (Mv ?_);refine iN (t:=100) rfl (λSi=>?_) (λSi=>?_)
 .exact Bool.noConfusion Si
 refine Zb1 ?_;have H449:=EI (EI H442);refine aS (eZ (T:=tG2) (li:=[]) (lw:=[]) (e:=0) H449.bI nU dQ.1 gI.1 gI.2 aho (λx hx=>zat hx zaj) dC) rfl rfl (λv' w449 hv=>?_);obtain⟨rfl,H449⟩:=hv;rw[gZ dQ.2.2.2.2.1];refine On (Vv (Gives.not rfl) (Zb2 ?_));refine iN (t:=105) rfl (λSj=>?_) (λSj=>?_)
 .exact Bool.noConfusion Sj
 refine Zb5 ?_;refine aC (t:=110) rfl (λSl=>?_) (λSl=>?_)
 .exact zat (show((0:Nat):Int)=0 from rfl) Sl
 refine Za3 ?_;refine Qn (Cp rfl (λIr=>?_) (λIr=>?_))
 .exact zat (by first | exact trivial | rfl) Ir
 refine Zb0 ?_;refine dx H449 (K7 ala K4.1 dC dC (hT.keep H449.kept)) (h:=λbO w468 _ H468 kI=>?_);refine Zb2 ?_;refine dx H468 (nk 1 1 aV) (h:=λx1 w472 _ H472 kJ=>?_);refine Bs H472 ([(x1,1)].flatMap av) (λbi w474 H474 kK=>?_);have H474:=pU H474;have H474:=EI H474;refine aS (eZ (T:=[]) (li:=lO1) (lw:=[]) (e:=50) H474.bI nU K4.1 aj1.1 aj1.2 (holds_nil plO) fO1 dC) rfl rfl (λv' w476 hv=>?_);obtain⟨rfl,H476⟩:=hv;rw[gZ K4.2.1];rw[ahq]at H476;refine Mv ?_;refine iN (t:=119) rfl (λSm=>?_) (λSm=>?_)
 .refine Zb1 ?_
  refine dx H476 (nk 0 1 aV) (h:=λx2 w481 _ H481 kL=>?_);refine On (Bs H481 ([(x2,1)].flatMap av) (λbi2 w483 H483 kM=>?_));have H483:=pU H483;refine On (Vb (aj (yJ 9223372036854775807)) ?_);refine On (Bs H483 ([yJ 9223372036854775807].flatMap aj) (λbc w486 H486 kN=>?_));have H486:Mw.Sep w noB (bW 52 3 aj (.slice (some ⟨bc,0,none⟩) 1 1) [yJ 9223372036854775807]::_) w486:=Sep.rM (n:=1) (s:=3) H486 At0 rfl dC;refine On (Vb (av (.slice (some ⟨bc,0,none⟩) 1 1,1)) ?_);refine On (Bs H486 ([(Value.slice (some ⟨bc,0,none⟩) 1 1,(1:Int))].flatMap av) (λbi3 w489 H489 kO=>?_));have H489:=pU H489;refine On (aS (eZ (T:=[]) (li:=lO2) (lw:=[⟨[yJ 9223372036854775807],1⟩]) (e:=0) H489.bI nU K4.1 aj1.1 aj1.2 (holds_nil plO) fO2 dC) rfl rfl (λv' w491 hv=>?_));obtain⟨rfl,H491⟩:=hv;rw[gZ K4.2.2];refine Zb2 ?_;exact⟨rfl,H491.kept⟩
 exact Bool.noConfusion Sm
end
structure yZ (cols:List bL) (p:aZ):Prop where
 fit:iR p
 cs:cols.length<=12
 outs:p.cols.length<=18
 wh:p.wh.length<=70
 st: ∀o∈p.cols,o.steps.length<=70
section
variable {w:Wd} {cols:List bL} {p:aZ} {l:List aH} {vc vp v:Value}
end
section
variable {w:Wd}
end
section
variable {w:Wd} {F:NP}
end
section
variable {w w0:Wd} {S:NP} {rs:List HP} {b:Nat} {cols:List bL} {p:aZ} {T J l:List aH} {v vc vp:Value} {L:List Held}
end
section
variable {w w0:Wd} {S:NP} {rs:List HP} {ok:Prop} [Decidable ok] {pv:Value} {q:Nat->HP} {b:Nat}
end
section
variable {w:Wd} {cols:List bL} {p:aZ} {vc vp:Value}
end
/-! Rows of rows of items,given. -/
def BS (w:Wd) (v:Value) (q:List (List aH)):Prop:=∃r:LV,aM w v KW 1 r/\r.length=q.length/\∀(i:Nat) x l,r[i]? =some x->q[i]? =some l->cZ w x l
theorem BS.keep {w w':Wd} {v:Value} {q:List (List aH)} (h:BS w v q) (hk:Kept noB w w'):BS w' v q:=by
 obtain⟨r,h1,h2,h3⟩:=h;exact⟨r,h1.keep hk,h2,λi x l hx hl=>(h3 i x l hx hl).keep hk⟩
structure nW (k:Nat) (l:List aH):Prop where
 few:l.length<=k
 fit: ∀x∈l,fits x.w
 row: ∀x∈l,x.row.length<=100
theorem xQ (k:Nat):nW k []:=⟨zak _,λ_ h=>zat h zaj,λ_ h=>zat h zaj⟩
theorem nW.mono {k m:Nat} {l:List aH} (h:nW k l) (hm:k<=m):nW m l:=⟨zcp h.few hm,h.fit,h.row⟩
theorem nW.app {k m:Nat} {a b:List aH} (h:nW k a) (h2:nW m b):nW (k+m) (a++b):=
 ⟨by rw[zad];have:=h.few;have:=h2.few;omega,λx hx=>(zbh.1 hx).elim (h.fit x) (h2.fit x),λx hx=>(zbh.1 hx).elim (h.row x) (h2.row x)⟩
theorem ahr {l:List aH}: ∀x∈(dY l).1,∃y∈l,y.row=x.row:=λx hx=>by
 unfold dY at hx
 split at hx
 .exact Ae.1 (KD.1 hx).1
 exact zat hx zaj
theorem aj2 {l:List aH} (h:isZ l): ∀x∈l,fits x.w:=λx hx=>zba (p:= -9223372036854775808<=x.w/\x.w<=9223372036854775807) (h.2.2 x hx)
theorem GI {k:Nat} {l:List aH} (hl:l.length<=k) (hr: ∀x∈l,x.row.length<=100):nW k (dY l).1:=
 ⟨zcp (JB l) hl,aj2 qE,λx hx=>by
  obtain⟨y,hy,e⟩:=ahr x hx;rw[<-e];exact hr y hy⟩
theorem BU {g:Int} {n:Nat} {T:List aH} (hn:n<=16) (hg:g<=n) (hT: ∀x∈T,x.row.length=n):nW T.length (dK g n T).1:=by
 by_cases h:(dK g n T).2=0
 .by_cases hg0:g<0
  .unfold dK
   rw[zac hg0];exact GI (zbf _) λx hx=>by rw[hT x hx];omega
  rw[jS hg0 h];obtain⟨hm,hf⟩:=(lK hg0).1 h;refine⟨zcp ahd (by rw[zae];exact zbf _),λx hx=>?_,λx hx=>?_⟩
  .rw[ahb x hx];exact⟨dC,dC⟩
  rw[ahc (nM hm) x hx];omega
 rw[Xp h];exact xQ _
theorem aa4 {g:Int} {n:Nat} {T m:List aH} (hn:n<=16) (hg:g<=n) (hT: ∀x∈T,x.row.length=n) (hm: ∀x∈m,x.row.length=n):nW (2*T.length+m.length) (jd g n T m).1:=by
 unfold jd
 split
 .exact xQ _
 have h1:nW (T++m).length (dK g n (T++m)).1:=BU hn hg λx hx=>(zbh.1 hx).elim (hT x) (hm x);have h2:nW T.length (dK g n T).1:=BU hn hg hT;have h1f:=h1.few;have h2f:=h2.few;rw[zad]at h1f
 split
 .exact GI oM λx hx=>by rw[hm x hx];omega
 refine GI ?_ λx hx=>?_
 .rw[zad]
  unfold qm;rw[zae];omega
 rcases zbh.1 hx with hx | hx
 .exact h1.row x hx
 unfold qm at hx;obtain⟨y,hy,rfl⟩:=zaq.1 hx;exact h2.row y hy
section
variable {cols:List bL} {p:aZ} {T l:List aH}
theorem vD (fq:(bQ cols p).2=0) (hf:iR p) (hv:mg p T) (zI: ∀x∈l,bR x):nW (2*T.length+l.length) (dB cols p T l).1:=by
 have Un:=qG fq;unfold dB
 split
 .exact xQ _
 refine(aa4 Un.2.1 Un.2.2.2 (λx hx=>(hv.items x hx).2.1) λx hx=>(ED hf.2 zI x hx).2.1).mono ?_;have:=uP (cols:=cols) (p:=p) l;omega
end
structure Given (cols:List bL) (p:aZ) (J:List aH) (i:Nat):Prop where
 good:(cB cols p J).2=0
 few:J.length<=10*i
 fit: ∀x∈J,bR x
 hold:mg p (cB cols p J).1
section
variable {w:Wd}
end
def JO (w:Wd) (v:Value):Prop:=∀w',Kept noB w w'->aN Tryz.prog 51 [v] w' λu w2=>u=.bool true/\Kept noB w' w2
theorem JO.keep {w w':Wd} {v:Value} (h:JO w v) (hk:Kept noB w w'):JO w' v:=λw2 h2=>h w2 (hk.trans h2 λ_ hb=>hb.elim)
section
variable {w:Wd} {v:Value}
end
end Go.Proofs.YtkfpleidaoaonaaGreatDoor
