/-
 The law's examples;walked.
-/
import Derived.Test.YtbkjpdboaclopaaGreatDoorNd29
set_option linter.all false
set_option maxRecDepth 4000
namespace Go.Proofs.Mw
open Go.Lib Go.Proofs.Tryz Go.ChangeShapes Go.WideShapes Go.RowKit
attribute [local irreducible] FW FL FG FGn jJ jO fC lJ Qfn Gives
def alW (x:aG):Bool:=decide (-9223372036854775808<=x.w/\x.w<=9223372036854775807)&&x.row.all λc=>decide (-9223372036854775808<=c.n/\c.n<=9223372036854775807)
def ou {l:List aG} (h:l.all alW=true): ∀x∈l,dR x:=λx hx=>by
 have h1:=zba.1 h x hx;unfold alW at h1;rw[zbr]at h1;refine⟨zbd (p:= -9223372036854775808<=x.w/\x.w<=9223372036854775807) h1.1,λc hc=>?_⟩;exact zbd (p:= -9223372036854775808<=c.n/\c.n<=9223372036854775807) (zba.1 h1.2 c hc)
def sS {x:List aG×Int} {a:List aG} {e:Int} (h:x=(a,e)):(decide (x.1=a)&&decide (x.2=e))=true:=by subst h;simp
def fA1: ∀x∈lA1,dR x:=ou dC
def fA2: ∀x∈lA2,dR x:=ou dC
def fG1: ∀x∈lG1,dR x:=ou dC
def fG2: ∀x∈lG2,dR x:=ou dC
def fG3: ∀x∈lG3,dR x:=ou dC
def fD: ∀x∈lD,dR x:=ou dC
def fO1: ∀x∈lO1,dR x:=ou dC
def fO2: ∀x∈lO2,dR x:=ou dC
def RY:tA1.length<=10/\tA2.length<=10/\tG1.length<=10/\tG2.length<=10:=by decide+kernel
def afg:bC plA.wh/\∀o∈plA.cols,bC o.steps:=(Cb alR).2.1
def J8:bC plG.wh/\∀o∈plG.cols,bC o.steps:=(Cb ahM).2.1
def akO:bC plO.wh/\∀o∈plO.cols,bC o.steps:=(Cb alS).2.1
def aia:lF plA tA1:=oW (holds_nil plA) afg.2 fA1 dC
def am3:lF plA tA2:=oW aia afg.2 fA2 (by have:=RY.1;have h:lA2.length=2:=rfl;omega)
def aib:lF plG tG1:=oW (holds_nil plG) J8.2 fG1 dC
def aic:lF plG tG2:=oW aib J8.2 fG2 (by have:=RY.2.2.1;have h:lG2.length=2:=rfl;omega)
def aie:iR pO plG tG2 lG3=tG2:=by unfold iR;rw[pz.2.2.2.1,zaa dC]
def aif:iR pO plO [] lO1=[]:=by unfold iR;rw[JY.2.1,zaa dC]
variable {w:Wd}
set_option maxHeartbeats 2000000 in
theorem RZ (hT:gT w):Rk Tryz.prog 10 [] w (.bool true):=by
 have H:=Sep.aH w;have hTx: ∀wx,Kept noB w wx->gT wx:=λwx h=>hT.keep h;refine abR Tryz.func10 ?_;refine Nz (J5 alR EM.1 dC dC (hT.keep H.kept)) (λbA w5 _ H5 k4=>?_);refine Nz (pU 1 1 aV) (λx1 w9 _ H9 k8=>?_);refine Nz (pU (-2) 1 bV) (λx2 wa _ Ha ka=>?_);refine Nz (pU 3 2 aV) (λx3 wb _ Hb kb=>?_);refine Bs Hb ([(x1,1),(x2,1),(x3,2)].flatMap aA) (λbs wc Hc kc=>?_);have Hc:=zq Hc;refine Mv ?_;refine eY (fs:=[]) (cs:=[]) (vals:=[I 3]) rfl (J4 3) rfl rfl (λv' wd hv=>?_);obtain⟨y1,rfl,_,jH,F1,jB,xu⟩:=hv;have He:=Hc.new jH jB (λb hb=>(xu b hb).resolve_left id);refine Bs He ([(y1,3)].flatMap aA) (λbs2 we Hf kd=>?_);have Hf:=nK Hf;refine aL (xX (li:=lA1) (lw:=[KW 3]) (e:=0) Hf.aR hTx EM.1 afg.1 afg.2 (holds_nil plA) fA1 dC) rfl rfl (λv' wf hv=>?_);obtain⟨rfl,Hg⟩:=hv;rw[sS EM.2.1];refine Vv (Gives.not rfl) (Mv ?_);refine dL (t:=24) rfl (λSa=>?_) (λSa=>?_)
 .exact Bool.noConfusion Sa
 refine Nz (pU 1 (-1) aV) (λx4 wg _ Hh ke=>?_);refine On (Nz (pU (-2) (-1) bV) (λx5 wi _ Hi kf=>?_));refine On (Bs Hi ([(x4, -1),(x5, -1)].flatMap aA) (λbs3 wj Hj kg=>?_));have Hj:=jT Hj;refine V1 ?_;refine eY (fs:=[]) (cs:=[]) (vals:=[I (-1)]) rfl (J4 (-1)) rfl rfl (λv' wk hv=>?_);obtain⟨y2,rfl,_,jH,F1,jB,xu⟩:=hv;have Hk:=Hj.new jH jB (λb hb=>(xu b hb).resolve_left id);refine On (Bs Hk ([(y2, -1)].flatMap aA) (λbs4 wl Hl kh=>?_));have Hl:=nK Hl;refine On (aL (xX (T:=tA1) (li:=lA2) (lw:=[KW (-1)]) (e:=0) Hl.aR hTx EM.1 afg.1 afg.2 aia fA2 dC) rfl rfl (λv' wm hv=>?_));obtain⟨rfl,Hm⟩:=hv;rw[sS EM.2.2.1];refine On (Vv (Gives.not rfl) (V2 ?_));refine dL (t:=35) rfl (λSb=>?_) (λSb=>?_)
 .exact Bool.noConfusion Sb
 refine V1 ?_;obtain⟨F0,rC,gQ,aK⟩:=Hm.focus At0;refine aL (Oe (T:=tA2) rC EM.1 am3) rfl rfl (λv' wn hv=>?_);obtain⟨xr,rfl,hxr,jH,F1,jB,xu⟩:=hv;have Hn:=(aK _ F1 _ jH jB xu).bE;rw[EM.2.2.2]at hxr;refine V1 ?_;refine eY (fs:=[]) (cs:=[]) (vals:=[I 2]) rfl (J4 2) rfl rfl (λv' wo hv=>?_);obtain⟨y3,rfl,_,jH,F1,jB,xu⟩:=hv;have Ho:=Hn.new jH jB (λb hb=>(xu b hb).resolve_left id);refine On (Bs Ho ([(y3,2)].flatMap aA) (λbs5 wp Hp ki=>?_));have Hp:=nK Hp;refine On ?_;have hxI:=gU Hp At1;rw[hxr]at hxI;refine Kz (xU (m:=[KW 2]) hxI ⟨_,(Sep.sees Hp At0).1,(Sep.sees Hp At0).2⟩) (λwq Hq kj=>?_);rw[zap (show(([KW 2],(0:Int)):List aG×Int).1=[KW 2]from rfl)];refine On (Vv (Gives.not rfl) (Pf ?_));refine Qn (Cd rfl (λIe=>?_) (λIe=>?_))
 .exact Bool.noConfusion Ie
 refine Nz (J5 ahM pz.1 dC dC (hT.keep Hq.kept)) (λbG wr _ Hr kk=>?_);refine V1 ?_;refine Vb (ah GI) ?_;refine Vb (ah (iH aV)) ?_;have Hs:=Hr.first;refine Az (λb5 ws Hs kl=>?_);refine Az (λb6 wt Ht km=>?_);refine Tz (λwu Hu=>?_);refine Tz (λwv Hv=>?_);refine Qn (dB (λx:Nat×Nat=>[(4,av x.1),(6,av x.2)]) (λx w'=>Mw.Sep w noB [jZ x.1 pO plG tG2,blk x.2 (ah (iH aV)) 47] w') ?_ ?_)
 .refine Dz (λSc ww Hw=>?_)
  refine acR (List.replicate 12 true++List.replicate 17 false) [(0,true)] (λx:(Nat×List (Value×Int))×Nat×List (Value×Int)=>[(2,.func (.func 35) #[] #[]),(4,av bG),(5,av b5),(6,av b6),(47,av bG),(51,.slice (some ⟨x.1.1,0,none⟩) 3 3),(58,.slice (some ⟨x.2.1,0,none⟩) 2 2)]) (λx w'=>Mw.Sep w noB [star (vQ (.slice (some ⟨x.2.1,0,none⟩) 2 2) x.2.2 [LC GI 1 1 1,LC (iH aV) 2 7 1]) (vQ (.slice (some ⟨x.1.1,0,none⟩) 3 3) x.1.2 lG1),jZ bG pO plG [],blk b6 (ah (iH aV)) 47,blk b5 (ah GI) 47] w') ?_ ?_
  .rintro⟨⟨bs,r1⟩,bq,r2⟩ τ wy Hx
   dsimp only at Hx ⊢;refine acR (List.replicate 26 true++[false,false,false]) [(15,true)] (λx:(Nat×List (Value×Int))×Nat×List (Value×Int)=>[(4,av bG),(6,av b6),(61,.bool false),(62,av bG),(65,.slice (some ⟨x.1.1,0,none⟩) 2 2),(72,.slice (some ⟨x.2.1,0,none⟩) 2 2)]) (λx w'=>Mw.Sep w noB [star (vQ (.slice (some ⟨x.2.1,0,none⟩) 2 2) x.2.2 [LC (iH aV) 2 7 (-1),LC (iH aV) 2 14 1]) (vQ (.slice (some ⟨x.1.1,0,none⟩) 2 2) x.1.2 lG2),jZ bG pO plG tG1,blk b6 (ah (iH aV)) 47] w') ?_ ?_
   .rintro⟨⟨bs3,r3⟩,bq2,r4⟩ τ wz Hy
    dsimp only at Hy ⊢;refine p8 Sc 26 [] rfl kR (xX (T:=tG1) (li:=lG2) (lw:=[LC (iH aV) 2 7 (-1),LC (iH aV) 2 14 1]) (e:=0) Hy hTx pz.1 J8.1 J8.2 aib fG2 dC) rfl kR kR (λv' wD hv=>?_);obtain⟨rfl,Hz⟩:=hv;rw[sS pz.2.2.1];refine⟨sT,?_⟩;refine GS (Gn rfl (λ_=>Gives.not rfl) ?_);refine O1 ?_;refine fO Sc kR ?_;refine iK (Cd rfl (λIf=>?_) (λIf=>?_))
    .exact Bool.noConfusion If
    refine V0 ?_;exact au (bG,b6) tR (Hz.firsts (l:=[_,_]))
   intro K26;refine p8 Sc 12 [] rfl kR (xX (li:=lG1) (lw:=[LC GI 1 1 1,LC (iH aV) 2 7 1]) (e:=0) Hx hTx pz.1 J8.1 J8.2 (holds_nil plG) fG1 dC) rfl kR kR (λv' wE hv=>?_);obtain⟨rfl,HA⟩:=hv;rw[sS pz.2.1];refine⟨sT,?_⟩;refine GS (Gn rfl (λ_=>Gives.not rfl) ?_);refine V1 ?_;refine GN (t:=61) rfl (λSd=>?_) (λSd=>?_)
   .exact Bool.noConfusion Sd
   refine V1 ?_;refine Gm Sc 19 ?_;refine V1 ?_;refine Gm Sc 22 ?_;refine V1 ?_;refine eB Sc 16 [(23,false),(22,true),(20,false),(19,true),(15,true)] HA (pU 2 (-1) aV) (h:=λx4 wF _ HB kn=>⟨sU,?_⟩);refine eB Sc 17 [(23,false),(22,true),(20,false),(19,true),(15,true)] HB (pU 9 1 aV) (h:=λx5 wG _ HC ko=>⟨sU,?_⟩);refine jQ Sc (e1:=18) (e2:=21) kR ?_ ?_
   .refine gD Sc 18 [(23,false),(22,true),(20,false),(19,true),(15,true)] HC (xs:=[.tmp 63,.tmp 64]) (out:=[(x4, -1),(x5,1)].flatMap aA) (eu.many rfl rfl (eu.many rfl rfl eu.nil)) rfl rfl rfl (h:=λbs3 wH HD=>?_)
    (have HD:=jT HD)
    refine⟨sU,?_⟩;refine j4 Sc 21 [(23,false),(22,true),(15,true)] (y:=.tmp 66) (fs:=[]) (cs:=[]) (vals:=[agg (ah (iH aV)),I 2,I 7,I (-1)]) rfl (nL (iH aV) 2 7 (-1)) (h:=λv' wI hv=>?_);obtain⟨y3,rfl,_,jH,F1,jB,xu⟩:=hv;have HE:=HD.new jH jB (λb hb=>(xu b hb).resolve_left id);refine⟨sU,?_⟩;refine j4 Sc 24 _ (y:=.tmp 69) (fs:=[]) (cs:=[]) (vals:=[agg (ah (iH aV)),I 2,I 14,I 1]) rfl (nL (iH aV) 2 14 1) (h:=λv' wJ hv=>?_);obtain⟨y4,rfl,_,jH,F1,jB,xu⟩:=hv;have HF:=HE.new jH jB (λb hb=>(xu b hb).resolve_left id);refine⟨sT,?_⟩;refine Gz Sc 25 _ HF ([(y3, -1),(y4,1)].flatMap aA) (h:=λbq2 wK HG=>?_)
    (have HG:=jT HG)
    refine⟨sT,?_⟩;exact K26 ((bs3,_),bq2,_) _ _ tR (HG.aR.firsts (l:=[_,_,_])) rfl
   refine pX Sc 21 [(23,false),(22,true),(15,true)] (y:=.tmp 66) (fs:=[]) (cs:=[]) (vals:=[agg (ah (iH aV)),I 2,I 7,I (-1)]) rfl (nL (iH aV) 2 7 (-1)) (h:=λv' wL hv=>?_);obtain⟨y3,rfl,_,jH,F1,jB,xu⟩:=hv;have HH:=HC.new jH jB (λb hb=>(xu b hb).resolve_left id);refine⟨sU,?_⟩;refine jQ Sc (e1:=18) (e2:=24) kR ?_ ?_
   .refine gD Sc 18 [(23,false),(22,true),(15,true)] HH (xs:=[.tmp 63,.tmp 64]) (out:=[(x4, -1),(x5,1)].flatMap aA) (eu.many rfl rfl (eu.many rfl rfl eu.nil)) rfl rfl rfl (h:=λbs3 wM HI=>?_)
    (have HI:=jT HI.aS.aS.aO)
    refine⟨sU,?_⟩;refine j4 Sc 24 _ (y:=.tmp 69) (fs:=[]) (cs:=[]) (vals:=[agg (ah (iH aV)),I 2,I 14,I 1]) rfl (nL (iH aV) 2 14 1) (h:=λv' wN hv=>?_);obtain⟨y4,rfl,_,jH,F1,jB,xu⟩:=hv;have HJ:=HI.new jH jB (λb hb=>(xu b hb).resolve_left id);refine⟨sT,?_⟩;refine Gz Sc 25 _ HJ ([(y3, -1),(y4,1)].flatMap aA) (h:=λbq2 wO HK=>?_)
    (have HK:=jT HK.aS.aO.aO)
    refine⟨sT,?_⟩;exact K26 ((bs3,_),bq2,_) _ _ tR (HK.aR.firsts (l:=[_,_,_])) rfl
   refine pX Sc 24 _ (y:=.tmp 69) (fs:=[]) (cs:=[]) (vals:=[agg (ah (iH aV)),I 2,I 14,I 1]) rfl (nL (iH aV) 2 14 1) (h:=λv' wP hv=>?_);obtain⟨y4,rfl,_,jH,F1,jB,xu⟩:=hv;have HL:=HH.new jH jB (λb hb=>(xu b hb).resolve_left id);refine⟨sT,?_⟩;refine jQ Sc (e1:=18) (e2:=25) kR ?_ ?_
   .refine gD Sc 18 _ HL (xs:=[.tmp 63,.tmp 64]) (out:=[(x4, -1),(x5,1)].flatMap aA) (eu.many rfl rfl (eu.many rfl rfl eu.nil)) rfl rfl rfl (h:=λbs3 wQ HM=>?_)
    (have HM:=jT HM.gu.gu.aO)
    refine⟨sT,?_⟩;refine Gz Sc 25 _ HM ([(y3, -1),(y4,1)].flatMap aA) (h:=λbq2 wR HN=>?_)
    (have HN:=jT HN.aS.aS.aO)
    refine⟨sT,?_⟩;exact K26 ((bs3,_),bq2,_) _ _ tR (HN.aR.firsts (l:=[_,_,_])) rfl
   refine gD Sc 25 _ HL (xs:=[.tmp 68,.tmp 71]) (out:=[(y3, -1),(y4,1)].flatMap aA) (eu.many rfl rfl (eu.many rfl rfl eu.nil)) rfl rfl rfl (h:=λbq2 wS HO=>?_)
   (have HO:=jT HO)
   refine⟨sT,?_⟩;refine Gz Sc 18 _ HO ([(x4, -1),(x5,1)].flatMap aA) (h:=λbs3 wT HQ=>?_)
   (have HQ:=jT HQ.aS.aS.aO)
   refine⟨sT,?_⟩;exact K26 ((bs3,_),bq2,_) _ _ tR (HQ.aF.aR.firsts (l:=[_,_,_])) rfl
  intro K12;refine Gm Sc 0 ?_;refine Gm Sc 5 ?_;refine V1 ?_;refine Gm Sc 8 ?_;refine V1 ?_;refine eB Sc 1 [(9,false),(8,true),(6,false),(5,true),(0,true)] Hw (pU 5 1 aV) (h:=λx1 wU _ HR kp=>⟨sU,?_⟩);refine eB Sc 2 [(9,false),(8,true),(6,false),(5,true),(0,true)] HR (pU 2 1 aV) (h:=λx2 wV _ HS kq=>⟨sU,?_⟩);refine eB Sc 3 [(9,false),(8,true),(6,false),(5,true),(0,true)] HS (pU 1 1 []) (h:=λx3 wW _ HT kr=>⟨sU,?_⟩);refine jQ Sc (e1:=4) (e2:=7) kR ?_ ?_
  .refine gD Sc 4 [(9,false),(8,true),(6,false),(5,true),(0,true)] HT (xs:=[.tmp 48,.tmp 49,.tmp 50]) (out:=[(x1,1),(x2,1),(x3,1)].flatMap aA) (eu.many rfl rfl (eu.many rfl rfl (eu.many rfl rfl eu.nil))) rfl rfl rfl (h:=λbs wX HU=>?_)
   (have HU:=zq HU)
   refine⟨sU,?_⟩;refine j4 Sc 7 [(9,false),(8,true),(0,true)] (y:=.tmp 52) (fs:=[]) (cs:=[]) (vals:=[agg (ah GI),I 1,I 1,I 1]) rfl (nL GI 1 1 1) (h:=λv' wY hv=>?_);obtain⟨y1,rfl,_,jH,F1,jB,xu⟩:=hv;have HV:=HU.new jH jB (λb hb=>(xu b hb).resolve_left id);refine⟨sU,?_⟩;refine j4 Sc 10 _ (y:=.tmp 55) (fs:=[]) (cs:=[]) (vals:=[agg (ah (iH aV)),I 2,I 7,I 1]) rfl (nL (iH aV) 2 7 1) (h:=λv' wZ hv=>?_);obtain⟨y2,rfl,_,jH,F1,jB,xu⟩:=hv;have HW:=HV.new jH jB (λb hb=>(xu b hb).resolve_left id);refine⟨sT,?_⟩;refine Gz Sc 11 _ HW ([(y1,1),(y2,1)].flatMap aA) (h:=λbq w_ HX=>?_)
   (have HX:=jT HX)
   refine⟨sT,?_⟩;exact K12 ((bs,_),bq,_) _ _ tR HX.gu.aO.aO.aR rfl
  refine pX Sc 7 [(9,false),(8,true),(0,true)] (y:=.tmp 52) (fs:=[]) (cs:=[]) (vals:=[agg (ah GI),I 1,I 1,I 1]) rfl (nL GI 1 1 1) (h:=λv' w149 hv=>?_);obtain⟨y1,rfl,_,jH,F1,jB,xu⟩:=hv;have HY:=HT.new jH jB (λb hb=>(xu b hb).resolve_left id);refine⟨sU,?_⟩;refine jQ Sc (e1:=4) (e2:=10) kR ?_ ?_
  .refine gD Sc 4 [(9,false),(8,true),(0,true)] HY (xs:=[.tmp 48,.tmp 49,.tmp 50]) (out:=[(x1,1),(x2,1),(x3,1)].flatMap aA) (eu.many rfl rfl (eu.many rfl rfl (eu.many rfl rfl eu.nil))) rfl rfl rfl (h:=λbs w151 HZ=>?_)
   (have HZ:=zq HZ.gu.gu.gu.aS)
   refine⟨sU,?_⟩;refine j4 Sc 10 _ (y:=.tmp 55) (fs:=[]) (cs:=[]) (vals:=[agg (ah (iH aV)),I 2,I 7,I 1]) rfl (nL (iH aV) 2 7 1) (h:=λv' w153 hv=>?_);obtain⟨y2,rfl,_,jH,F1,jB,xu⟩:=hv;have H_:=HZ.new jH jB (λb hb=>(xu b hb).resolve_left id);refine⟨sT,?_⟩;refine Gz Sc 11 _ H_ ([(y1,1),(y2,1)].flatMap aA) (h:=λbq w155 H155=>?_)
   (have H155:=jT H155.aS.aO.aO)
   refine⟨sT,?_⟩;exact K12 ((bs,_),bq,_) _ _ tR H155.gu.aO.aO.aR rfl
  refine pX Sc 10 _ (y:=.tmp 55) (fs:=[]) (cs:=[]) (vals:=[agg (ah (iH aV)),I 2,I 7,I 1]) rfl (nL (iH aV) 2 7 1) (h:=λv' w158 hv=>?_);obtain⟨y2,rfl,_,jH,F1,jB,xu⟩:=hv;have H158:=HY.new jH jB (λb hb=>(xu b hb).resolve_left id);refine⟨sT,?_⟩;refine jQ Sc (e1:=4) (e2:=11) kR ?_ ?_
  .refine gD Sc 4 _ H158 (xs:=[.tmp 48,.tmp 49,.tmp 50]) (out:=[(x1,1),(x2,1),(x3,1)].flatMap aA) (eu.many rfl rfl (eu.many rfl rfl (eu.many rfl rfl eu.nil))) rfl rfl rfl (h:=λbs w160 H160=>?_)
   (have H160:=zq H160.jC.jC.jC.aS)
   refine⟨sT,?_⟩;refine Gz Sc 11 _ H160 ([(y1,1),(y2,1)].flatMap aA) (h:=λbq w162 H162=>?_)
   (have H162:=jT H162.aS.aS.aO)
   refine⟨sT,?_⟩;exact K12 ((bs,_),bq,_) _ _ tR H162.gu.aO.aO.aR rfl
  refine gD Sc 11 _ H158 (xs:=[.tmp 54,.tmp 57]) (out:=[(y1,1),(y2,1)].flatMap aA) (eu.many rfl rfl (eu.many rfl rfl eu.nil)) rfl rfl rfl (h:=λbq w165 H165=>?_)
  (have H165:=jT H165)
  refine⟨sT,?_⟩;refine Gz Sc 4 _ H165 ([(x1,1),(x2,1),(x3,1)].flatMap aA) (h:=λbs w167 H167=>?_)
  (have H167:=zq H167.gu.gu.gu.aS)
  refine⟨sT,?_⟩;exact K12 ((bs,_),bq,_) _ _ tR H167.gu.aF.aO.aR rfl
 rintro⟨bG,b6⟩ τ w170 H170;dsimp only at H170;refine Lp ?_;refine Sr ?_;obtain⟨hpg,_,Bj⟩:=Cb ahM;refine Nz (Nv txG (.inl oM) oM (hT.keep H170.kept)) (λxp w172 _ H172 ks=>?_);rw[hpg]at H172 ⊢;have hPI:fZ w172 xp plG:=Sep.sees H172 At0;obtain⟨vw,vc,rfl,hvw,q,hvc,_⟩:=hPI;obtain⟨W,cw,rfl,_,_⟩:=hvw;obtain⟨A,ca,rfl,_,_⟩:=hvc;refine Az (λb7 w178 H178 kt=>?_);refine iB H178 (us:=[.slice W plG.wh.length cw,.slice A q.length ca,I plG.group]) (h:=λw180 H180=>?_);refine O2 ?_;refine Qn (dB (λx:Nat×Nat×OA×Nat=>[(4,av x.1),(6,av x.2.1),(10,.slice x.2.2.1 0 x.2.2.2),(11,I 100)]) (λx w'=>Mw.Sep w noB [jZ x.1 pO plG tG2,blk x.2.1 (ah (iH aV)) 47] w') ?_ ?_)
 .refine Dz (λSe w186 H186=>?_)
  refine jU Se 1 H186 (h:=?_);refine Gb Se 2 (ah (vO 2147483648)) ?_;refine jQ Se (e1:=0) (e2:=3) kR ?_ ?_
  .refine j3 Se 0 [(2,true),(1,false)] H186 UF (h:=λtv w190 _ H190 ku=>⟨sU,?_⟩)
   refine Gz Se 3 [(1,false)] H190 ([vO 2147483648].flatMap ah) (h:=λbc w192 H192=>?_);have H192:Mw.Sep w noB (aU 47 3 ah (.slice (some ⟨bc,0,none⟩) 1 1) [vO 2147483648]::_) w192:=Sep.nU (n:=1) (s:=3) H192 At0 rfl dC;refine⟨sU,?_⟩;refine Gb Se 4 (aA (.slice (some ⟨bc,0,none⟩) 1 1,1)) ?_;refine Gz Se 5 [(1,false)] H192 ([(Value.slice (some ⟨bc,0,none⟩) 1 1,(1:Int))].flatMap aA) (h:=λbi w195 H195=>?_)
   (have H195:=nK H195)
   refine⟨sU,?_⟩;have hFG:=J8
   first
   | refine eB Se 6 _ H195 (rU (cols:=pO) (p:=plG) (l:=lD) (jq H195 At1) dC (Sep.sees H195 At3) ⟨_,(Sep.sees H195 At0).1,(Sep.sees H195 At0).2⟩ hFG.1 hFG.2 dC dC dC fD dC (hT.keep H195.kept)) (h:=λxd w197 VG H197 kv=>⟨sT,?_⟩)
   | refine eB Se 6 _ H195 (rU (cols:=pO) (p:=plG) (l:=lD) (jq H195 At0) dC (Sep.sees H195 At3) ⟨_,(Sep.sees H195 At1).1,(Sep.sees H195 At1).2⟩ hFG.1 hFG.2 dC dC dC fD dC (hT.keep H195.kept)) (h:=λxd w197 VG H197 kv=>⟨sT,?_⟩)
   refine V5 ?_;obtain⟨xd,L⟩:=xd;dsimp only at VG H197;rw[pz.2.2.2.2.2]at VG;obtain rfl :L=[]:=zgc.1 VG;have Hd:=H197.bE;obtain⟨XA,cX,hX,_,_⟩:=Sep.bH Hd At0;subst hX;refine au (bG,b6,XA,cX) ⟨rfl,rfl,rfl,?_,trivial⟩ (Sep.firsts (l:=[_,_]) Hd.Ci.Ci);exact zay (λe:List aG×Int=>I e.2) pz.2.2.2.2.2
  refine gD Se 3 [(1,false)] H186 (xs:=[.tmp 84]) (out:=[vO 2147483648].flatMap ah) (eu.many rfl rfl eu.nil) rfl rfl rfl (h:=λbc w204 H204=>?_);have H204:Mw.Sep w noB (aU 47 3 ah (.slice (some ⟨bc,0,none⟩) 1 1) [vO 2147483648]::_) w204:=Sep.nU (n:=1) (s:=3) H204 At0 rfl dC;refine⟨sU,?_⟩;refine Gb Se 4 (aA (.slice (some ⟨bc,0,none⟩) 1 1,1)) ?_;refine jQ Se (e1:=0) (e2:=5) kR ?_ ?_
  .refine j3 Se 0 [(4,true),(1,false)] H204 UF (h:=λtv w207 _ H207 kw=>⟨sU,?_⟩)
   refine Gz Se 5 [(1,false)] H207 ([(Value.slice (some ⟨bc,0,none⟩) 1 1,(1:Int))].flatMap aA) (h:=λbi w209 H209=>?_)
   (have H209:=nK H209.aO.aF)
   refine⟨sU,?_⟩;have hFG:=J8
   first
   | refine eB Se 6 _ H209 (rU (cols:=pO) (p:=plG) (l:=lD) (jq H209 At1) dC (Sep.sees H209 At3) ⟨_,(Sep.sees H209 At0).1,(Sep.sees H209 At0).2⟩ hFG.1 hFG.2 dC dC dC fD dC (hT.keep H209.kept)) (h:=λxd w211 VG H211 kx=>⟨sT,?_⟩)
   | refine eB Se 6 _ H209 (rU (cols:=pO) (p:=plG) (l:=lD) (jq H209 At0) dC (Sep.sees H209 At3) ⟨_,(Sep.sees H209 At1).1,(Sep.sees H209 At1).2⟩ hFG.1 hFG.2 dC dC dC fD dC (hT.keep H209.kept)) (h:=λxd w211 VG H211 kx=>⟨sT,?_⟩)
   refine V5 ?_;obtain⟨xd,L⟩:=xd;dsimp only at VG H211;rw[pz.2.2.2.2.2]at VG;obtain rfl :L=[]:=zgc.1 VG;have Hd:=H211.bE;obtain⟨XA,cX,hX,_,_⟩:=Sep.bH Hd At0;subst hX;refine au (bG,b6,XA,cX) ⟨rfl,rfl,rfl,?_,trivial⟩ (Sep.firsts (l:=[_,_]) Hd.Ci.Ci);exact zay (λe:List aG×Int=>I e.2) pz.2.2.2.2.2
  refine gD Se 5 [(1,false)] H204 (xs:=[.tmp 86]) (out:=[(Value.slice (some ⟨bc,0,none⟩) 1 1,(1:Int))].flatMap aA) (eu.many rfl rfl eu.nil) rfl rfl rfl (h:=λbi w218 H218=>?_)
  (have H218:=nK H218)
  refine⟨sU,?_⟩;refine eB Se 0 [(1,false)] H218 UF (h:=λtv w220 _ H220 ky=>⟨sU,?_⟩);have hFG:=J8
  first
  | refine eB Se 6 _ H220 (rU (cols:=pO) (p:=plG) (l:=lD) (jq H220 At1) dC (Sep.sees H220 At3) ⟨_,(Sep.sees H220 At0).1,(Sep.sees H220 At0).2⟩ hFG.1 hFG.2 dC dC dC fD dC (hT.keep H220.kept)) (h:=λxd w222 VG H222 kz=>⟨sT,?_⟩)
  | refine eB Se 6 _ H220 (rU (cols:=pO) (p:=plG) (l:=lD) (jq H220 At0) dC (Sep.sees H220 At3) ⟨_,(Sep.sees H220 At1).1,(Sep.sees H220 At1).2⟩ hFG.1 hFG.2 dC dC dC fD dC (hT.keep H220.kept)) (h:=λxd w222 VG H222 kz=>⟨sT,?_⟩)
  refine V5 ?_;obtain⟨xd,L⟩:=xd;dsimp only at VG H222;rw[pz.2.2.2.2.2]at VG;obtain rfl :L=[]:=zgc.1 VG;have Hd:=H222.bE;obtain⟨XA,cX,hX,_,_⟩:=Sep.bH Hd At0;subst hX;refine au (bG,b6,XA,cX) ⟨rfl,rfl,rfl,?_,trivial⟩ (Sep.firsts (l:=[_,_]) Hd.Ci.Ci);exact zay (λe:List aG×Int=>I e.2) pz.2.2.2.2.2
 rintro⟨bG,b6,XA,cX⟩ τ w229 H229;dsimp only at H229;refine Lp ?_;refine V1 ?_;refine Vb (ah (vO 1)) ?_;refine fQ H229 (cs:=ah (iH aV)) (h:=?_);refine fQ H229 (cs:=ah (iH aV)) (h:=?_);refine Bs H229 ([vO 1,iH aV,iH aV].flatMap ah) (λbc w235 H235 kA=>?_);have H235:Mw.Sep w noB (aU 47 3 ah (.slice (some ⟨bc,0,none⟩) 3 3) [vO 1,iH aV,iH aV]::_) w235:=Sep.nU (n:=3) (s:=3) H235 At0 rfl dC;refine Vb (aA (.slice (some ⟨bc,0,none⟩) 3 3,1)) ?_;refine Bs H235 ([(Value.slice (some ⟨bc,0,none⟩) 3 3,(1:Int))].flatMap aA) (λbi w238 H238 kB=>?_);have H238:=nK H238;have H238:=Dw H238;refine aL (xX (T:=tG2) (li:=lG3) (lw:=[]) (e:=100) H238.aR hTx pz.1 J8.1 J8.2 aic fG3 dC) rfl rfl (λv' w240 hv=>?_);obtain⟨rfl,H240⟩:=hv;rw[sS pz.2.2.2.1];rw[aie]at H240;refine Vv (Gives.not rfl) (Mv ?_);refine dL (t:=100) rfl (λSf=>?_) (λSf=>?_)
 .exact Bool.noConfusion Sf
 refine V1 ?_;have H247:=Dw (Dw H240);refine aL (xX (T:=tG2) (li:=[]) (lw:=[]) (e:=0) H247.aR hTx pz.1 J8.1 J8.2 aic (λx hx=>zas hx zam) dC) rfl rfl (λv' w247 hv=>?_);obtain⟨rfl,H247⟩:=hv;rw[sS pz.2.2.2.2.1];refine On (Vv (Gives.not rfl) (V2 ?_));refine dL (t:=105) rfl (λSg=>?_) (λSg=>?_)
 .exact Bool.noConfusion Sg
 refine Sz (λSh=>?_) (λSh=>?_)
 .exact zas (show((0:Nat):Int)=0 from rfl) Sh
 refine Cz (λIg=>?_) (λIg=>?_)
 .exact zas (by first | exact trivial | rfl) Ig
 refine Nz (J5 alS JY.1 dC dC (hT.keep H247.kept)) (λbO w266 _ H266 kC=>?_);refine Nz (pU 1 1 aV) (λx1 w270 _ H270 kD=>?_);refine Bs H270 ([(x1,1)].flatMap aA) (λbi w272 H272 kE=>?_);have H272:=nK H272;have H272:=Dw H272;refine aL (xX (T:=[]) (li:=lO1) (lw:=[]) (e:=50) H272.aR hTx JY.1 akO.1 akO.2 (holds_nil plO) fO1 dC) rfl rfl (λv' w274 hv=>?_);obtain⟨rfl,H274⟩:=hv;rw[sS JY.2.1];rw[aif]at H274;refine Mv ?_;refine dL (t:=119) rfl (λSi=>?_) (λSi=>?_)
 .refine Nz (pU 0 1 aV) (λx2 w279 _ H279 kF=>?_)
  refine On (Bs H279 ([(x2,1)].flatMap aA) (λbi2 w281 H281 kG=>?_));have H281:=nK H281;refine On (Vb (ah (vO 9223372036854775807)) ?_);refine On (Bs H281 ([vO 9223372036854775807].flatMap ah) (λbc w284 H284 kH=>?_));have H284:Mw.Sep w noB (aU 47 3 ah (.slice (some ⟨bc,0,none⟩) 1 1) [vO 9223372036854775807]::_) w284:=Sep.nU (n:=1) (s:=3) H284 At0 rfl dC;refine On (Vb (aA (.slice (some ⟨bc,0,none⟩) 1 1,1)) ?_);refine On (Bs H284 ([(Value.slice (some ⟨bc,0,none⟩) 1 1,(1:Int))].flatMap aA) (λbi3 w287 H287 kI=>?_));have H287:=nK H287;refine On (aL (xX (T:=[]) (li:=lO2) (lw:=[⟨[vO 9223372036854775807],1⟩]) (e:=0) H287.aR hTx JY.1 akO.1 akO.2 (holds_nil plO) fO2 dC) rfl rfl (λv' w289 hv=>?_));obtain⟨rfl,H289⟩:=hv;rw[sS JY.2.2];refine V2 ?_;exact⟨rfl,H289.kept⟩
 exact Bool.noConfusion Si
def afh (l:List aG):(uf l).length<=10:=by unfold uf;rw[zae,zah];omega
def afi {l:List aG}: ∀x∈uf l,x.row.length<=12:=λx hx=>by
 obtain⟨y,_,rfl⟩:=zar.1 hx;show((y.row.take 12).map mF).length<=12
 rw[zae,zah];omega
def afj {l:List aG} (h: ∀x∈l,dR x): ∀x∈uf l,dR x:=λx hx=>by
 obtain⟨y,hy,rfl⟩:=zar.1 hx;obtain⟨h1,h2⟩:=h y (zcg hy);refine⟨h1,λc hc=>?_⟩;obtain⟨d,hd,rfl⟩:=zar.1 hc;exact h2 d (zcg hd)
def Ou (l:List bL):(iZ l).length<=70:=by unfold iZ;rw[zae,zah];omega
def Ov {l:List bL} (h:bC l):bC (iZ l):=λx hx=>by
 obtain⟨y,hy,rfl⟩:=zar.1 hx;exact h y (zcg hy)
def afk {p:aW} (h:rM p):rM (zk p)/\(zk p).cols.length<=18/\(zk p).wh.length<=70/\∀o∈(zk p).cols,o.steps.length<=70:=
 ⟨⟨Ov h.1,λo ho=>by
  obtain⟨y,hy,rfl⟩:=zar.1 ho;exact Ov (h.2 y (zcg hy))⟩,by show((p.cols.take 18).map Bc).length<=18;rw[zae,zah];omega,Ou _,λo ho=>by
  obtain⟨y,hy,rfl⟩:=zar.1 ho;exact Ou _⟩
def aaT {v:Value} {p:aW} (h:fZ w v p): ∃A a B b,v=agg [.slice A p.wh.length a,.slice B p.cols.length b,I p.group]:=by
 obtain⟨vw,vc,rfl,⟨A,a,rfl,_⟩,r,⟨B,b,rfl,_⟩,hr⟩:=h;exact⟨A,a,B,b,by rw[hr.len]⟩
structure aaU (cols:List bT) (p:aW):Prop where
 fit:rM p
 cs:cols.length<=12
 outs:p.cols.length<=18
 wh:p.wh.length<=70
 st: ∀o∈p.cols,o.steps.length<=70
def akP {p:aW} (cols:List bT) (h:rM p):aaU (cols.take 12) (zk p):=by
 obtain⟨h1,h2,h3,h4⟩:=afk h;exact⟨h1,by rw[zah];omega,h2,h3,h4⟩
variable {cols:List bT} {p:aW} {l:List aG} {vc vp v:Value}
def aii (C:aaU cols p) (hc:aJ w vc aM 7 cols) (hp:fZ w vp p) (hT:gT w):
    aQ Tryz.prog 7 [vc,vp] w λu w'=>∃pv:Value,u=.tuple #[pv,I (aZ cols p).2]/\Kept noB w w'/\((aZ cols p).2≠0->pv=.pointer none)/\((aZ cols p).2=0->∃b:Nat,pv=av b/\Turn noB (jZ b cols p []) w w'):=
  Og hc (by have:=C.cs;omega) hp C.fit.1 C.fit.2 (by have:=C.outs;omega) (by have:=C.wh;omega) (λo ho=>by have:=C.st o ho;omega) hT
def aij (C:aaU cols p) (hc:aJ w vc aM 7 cols) (hp:fZ w vp p):
    aQ Tryz.prog 8 [vc,vp] w λu w'=>∃pv:Value,u=.tuple #[pv,I (aZ cols p).2]/\Kept noB w w'/\((aZ cols p).2≠0->pv=.pointer none)/\((aZ cols p).2=0->∃b:Nat,pv=av b/\Turn noB (oq b cols p []) w w'):=
  akD hc (by have:=C.cs;omega) hp (by have:=C.outs;omega) (by have:=C.wh;omega) (λo ho=>by have:=C.st o ho;omega)
def ao3:HP:=fP λ_=>True
variable {F:NP}
variable {vw:Value} {g:Int} {s:List bL}
theorem aik {vcols:Value} {L:List zl} (hp:(star (NW vw vc s L) (aU 49 7 aM vcols cols)).ok F w) (hs:s.length<=1000) (hn:L.length<=1000) (dK: ∀b∈L,b.2.steps.length<=1000) (hc:cols.length<=1000):
    aQ Tryz.prog 9 [agg [vw,vc,I g],vcols] w λu w'=>u=.tuple #[]/\Turn F ao3 w w':=by
  have H:=(Sep.bW hp).bE.bE.aF.bE;obtain⟨K,ck,rfl,dN,_⟩:=Sep.bH H.aS At0;obtain⟨W,cw,rfl,hcw,_⟩:=Sep.bH H.aO At0;obtain⟨C,cc,rfl,Pg,_⟩:=Sep.bH H At0;have hL0:(mG L).length=L.length:=zae _;refine bU Tryz.func9 ?_;refine Sr (bB H (cs:=[.slice W s.length cw,.slice C (mG L).length cc,I g]) rfl (h:=λb2 _ S _=>?_));refine V1 ?_;refine aI (λx:Nat×List bL=>[(1,.slice K cols.length ck),(2,av b2),(4,I x.1)]) (λx w'=>(x.1<=s.length/\s.length=x.2.length)/\Mw.Sep w F [blk b2 [.slice W s.length cw,.slice C (mG L).length cc,I g] 26,aU 68 2 dx (.slice C (mG L).length cc) (mG L),NV L,aU 66 3 aN (.slice W s.length cw) x.2,aU 49 7 aM (.slice K cols.length ck) cols] w') (λx _=>s.length-x.1) (0,s) tR ⟨⟨zai _,rfl⟩,S⟩ (λx τ _ hI=>?_);obtain⟨i,s'⟩:=x;obtain⟨⟨hi,hm⟩,S⟩:=hI;dsimp only at hi hm S;refine Lp ?_;refine Cz (λa=>?_) (λa=>?_)
  . have aX:i<s.length:=oM
    refine V3 ?_;refine Vb (aN ⟨3,0,[]⟩) ?_;refine Vv (Gives.LB (l:=s') (enc:=aN) hm rfl rfl (j5 hm S At3) oM) (rP (i:=i) (enc:=aN) ⟨3,0,[]⟩ hm S At3 oM rfl (h:=λ_ a=>?_));refine V1 ?_;refine Vc ((i+1:Nat):Int) ?_;refine V1 ?_;exact aj (i+1,s'.set i ⟨3,0,[]⟩) tR ⟨⟨dO,by dsimp only;rw[zcy];exact hm⟩,a⟩ dO
  refine V1 ?_;have a:=S.aS.bI;refine aI (λi:Nat=>[(1,.slice K cols.length ck),(2,av b2),(5,I i)]) (λi w'=>i<=L.length/\Mw.Sep w F [blk b2 [.slice W s.length cw,.slice C (mG L).length cc,I g] 26,aU 68 2 dx (.slice C (mG L).length cc) (mG L),NV (L.drop i),aU 49 7 aM (.slice K cols.length ck) cols] w') (λi _=>L.length-i) 0 tR ⟨zai _,a⟩ (λi τ _ hI=>?_);obtain⟨hi,a⟩:=hI;refine Lp ?_;refine Cz (λS=>?_) (λS=>?_)
  . have aX:i<L.length:=oM
    obtain⟨b,hb⟩:=get_some aX;have hri:(mG L)[i]? =some (b.2.name,b.1):=by unfold mG;rw[zbz,hb];rfl
    have hbl:=dK b (zag hb);rw[BX hb]at a;obtain⟨y,o⟩:=b;dsimp only at hri hbl;have S:Mw.Sep w F (aU 66 3 aN y o.steps::NV (L.drop (i+1))::blk b2 [.slice W s.length cw,.slice C (mG L).length cc,I g] 26::aU 68 2 dx (.slice C (mG L).length cc) (mG L)::aU 49 7 aM (.slice K cols.length ck) cols::[]) _:=a.aO.bE;obtain⟨Y,cy,rfl,_,_⟩:=Sep.bH S At0;refine V1 ?_;refine aI (λx:Nat×List bL=>[(1,.slice K cols.length ck),(2,av b2),(5,I i),(6,I x.1)]) (λx w'=>(x.1<=o.steps.length/\o.steps.length=x.2.length)/\Mw.Sep w F [aU 66 3 aN (.slice Y o.steps.length cy) x.2,NV (L.drop (i+1)),blk b2 [.slice W s.length cw,.slice C (mG L).length cc,I g] 26,aU 68 2 dx (.slice C (mG L).length cc) (mG L),aU 49 7 aM (.slice K cols.length ck) cols] w') (λx _=>o.steps.length-x.1) (0,o.steps) tR ⟨⟨zai _,rfl⟩,S⟩ (λx τ _ hI=>?_);obtain⟨k,s'⟩:=x;obtain⟨⟨hk,hm⟩,S⟩:=hI;dsimp only at hk hm S;refine Lp ?_;refine V4 ?_;refine Vv (Gives.fA (l:=mG L) rfl rfl (dP S At3) oM) (Vv (Gives.AX rfl (dP S At3) oM) ?_);refine Vv (Gives.CJ (i:=i) (f:=1) rfl (dP S At3) hri rfl) (Cz (λc=>?_) (λc=>?_))
    . have hlk:k<o.steps.length:=oM
      refine V3 ?_;refine Vv (Gives.fA (l:=mG L) rfl rfl (dP S At3) oM) (Vv (Gives.AX rfl (dP S At3) oM) ?_);refine Vv (Gives.CJ (i:=i) (f:=1) rfl (dP S At3) hri rfl) (Mv ?_);refine Vb (aN ⟨2,5,[]⟩) ?_;refine Vv (Gives.LB (l:=s') (enc:=aN) hm rfl rfl (j5 hm S At0) oM) (rP (i:=k) (enc:=aN) ⟨2,5,[]⟩ hm S At0 oM rfl (h:=λ_ c=>?_));refine V1 ?_;refine Vc ((k+1:Nat):Int) ?_;refine V1 ?_;exact aj (k+1,s'.set k ⟨2,5,[]⟩) tR ⟨⟨dO,by dsimp only;rw[zcy];exact hm⟩,c⟩ dO
    have nW:=0;refine V1 ?_;refine Vc ((i+1:Nat):Int) ?_;refine V1 ?_;exact aj (i+1) tR ⟨oM,S.bI.aO.aO⟩ oM
  refine V1 ?_;refine aI (λx:Nat×List bT=>[(1,.slice K cols.length ck),(7,I x.1)]) (λx w'=>(x.1<=cols.length/\cols.length=x.2.length)/\Mw.Sep w F [aU 49 7 aM (.slice K cols.length ck) x.2] w') (λx _=>cols.length-x.1) (0,cols) tR ⟨⟨zai _,rfl⟩,a.aS.first⟩ (λx τ _ hI=>?_);obtain⟨i,s'⟩:=x;obtain⟨⟨hi,hm⟩,c⟩:=hI;dsimp only at hi hm c;refine Lp ?_;refine Cz (λS=>?_) (λS=>?_)
  . have aX:i<cols.length:=oM
    refine V2 ?_;refine Vb (aM ⟨99,[],⟨0,false⟩,⟨false,0,[]⟩⟩) ?_;refine Vv (Gives.LB (l:=s') (enc:=aM) hm rfl rfl (j5 hm c At0) oM) (rP (i:=i) (enc:=aM) ⟨99,[],⟨0,false⟩,⟨false,0,[]⟩⟩ hm c At0 oM rfl (h:=λ_ S=>?_));refine V1 ?_;refine Vc ((i+1:Nat):Int) ?_;refine V1 ?_;exact aj (i+1,s'.set i ⟨99,[],⟨0,false⟩,⟨false,0,[]⟩⟩) tR ⟨⟨dO,by dsimp only;rw[zcy];exact hm⟩,S⟩ dO
  refine V0 ?_;exact⟨rfl,(Sep.look c At0 λ_ _ _=>trivial).first.turn⟩
def Ow: ∀{l:List nQ} {i:Nat} {acc:List bT},(xM cols g i l acc).1.length<=acc.length+2*l.length+1
 | [],i,acc=>by
  rw[xM];dsimp only
  split
  .rw[zad];simp
  simp
 | o::l,i,acc=>by
  rw[xM,zaq]
  split
  .simp
  split
  .split
   .simp
   refine zck Ow ?_;rw[zad]
   split
   .rw[zad];simp;omega
   simp;omega
  refine zck Ow ?_;rw[zad];simp;omega
def R3 {cols:List bT} {p:aW}:(aZ cols p).1.length<=2*p.cols.length+1:=by
 unfold aZ
 split
 .simp
 split
 .simp
 split
 .simp
 exact zck Ow sM
variable {w0:Wd} {S:NP} {rs:List HP} {b:Nat} {T J:List aG} {L:List Held}
def ail (H:Mw.Sep w0 S (dz v L::jZ b cols p T::rs) w) (hl:L.map (·.2)=l) (hT: ∀wx,Kept S w0 wx->gT wx) (dN:(aZ cols p).2=0) (hf:rM p) (hv:lF p T) (Fx: ∀x∈l,dR x) (hln:l.length<=100):
    aQ prog 14 [av b,v] w λu w'=>∃x:Value×List Held,u=.tuple #[x.1,I (fq cols p T l).2]/\x.2.map (·.2)=(fq cols p T l).1/\Mw.Sep w0 S (dz x.1 x.2::jZ b cols p (iR cols p T l)::dz v L::rs) w':=by
  obtain⟨F0,rC,gQ,VH,aK⟩:=Sep.BN H At0;have Fu: ∀k,Kept F0 w k->Kept S w0 k:=λk h1=>Mw.Kept.into H.kept gQ h1;refine aQ.mono (J3 rC ⟨aP L,λk h1=>?_⟩ (λk h1=>hT k (Fu k h1)) dN hf.1 hf.2 hv Fx hln) λu w' hu=>?_
  . obtain⟨Fq,F1,F2,_,_,h1,h2⟩:=VH k h1
    exact⟨mW h1,hl▸vD h2⟩
  obtain⟨x,rfl,hx,jH,F1,jB,k⟩:=hu;exact⟨x,rfl,hx,(aK _ F1 _ jH jB k).aF.bE⟩
def akQ (H:Mw.Sep w0 S (jZ b cols p T::rs) w) (dN:(aZ cols p).2=0) (hv:lF p T):
    aQ prog 18 [av b] w λu w'=>∃x:Value×List Held,u=x.1/\x.2.map (·.2)=(d9 p.group p.cols.length T).1/\Mw.Sep w0 S (dz x.1 x.2::jZ b cols p T::rs) w':=by
  obtain⟨F0,rC,gQ,aK⟩:=H.focus At0;refine aQ.mono (Oe rC dN hv) λu w' hu=>?_;obtain⟨x,rfl,hx,jH,F1,jB,k⟩:=hu;exact⟨x,rfl,hx,(aK _ F1 _ jH jB k).bE⟩
def acP (H:Mw.Sep w0 S (jZ b cols p T::rs) w) (hn:p.cols.length<=100):
    aQ prog 11 [av b] w λu w'=>∃x:Value,u=x/\Mw.Sep w0 S (aU 49 7 aM x (aZ cols p).1::jZ b cols p T::rs) w':=by
  obtain⟨z,kv,fv,o1,k⟩:=EN H;obtain⟨t0,b0,rfl⟩:=EO k.aF;refine aQ.mono (ahI (k.obj At0) (.inr ⟨rfl,t0,_,rfl⟩) (Sep.sees k At2).1.2.2 (by have:=R3 (cols:=cols) (p:=p);omega)) λu w' hu=>?_;obtain⟨x,rfl,_,jH,F1,jB,I⟩:=hu;exact⟨_,rfl,(uN ((k.new jH jB (λb hb=>(I b hb).resolve_left id)).aS.aS.aS)).aF⟩
def afl (H:Mw.Sep w0 S (dz v L::oq b cols p J::rs) w) (hl:L.map (·.2)=l) (dN:(aZ cols p).2=0) (hf:rM p) (hJ0:(bN cols p J).2=0) (hv:lF p (bN cols p J).1) (hJf: ∀x∈J,dR x) (Fx: ∀x∈l,dR x) (hlr: ∀x∈l,x.row.length<=1000) (hn:J.length+l.length<=100):
    aQ prog 15 [av b,v] w λu w'=>∃x:Value×List Held,u=.tuple #[x.1,I (fq cols p (bN cols p J).1 l).2]/\x.2.map (·.2)=(fq cols p (bN cols p J).1 l).1/\Mw.Sep w0 S (dz x.1 x.2::oq b cols p (if(fq cols p (bN cols p J).1 l).2=0 then J++l else J)::dz v L::rs) w':=by
  obtain⟨F0,rC,gQ,VH,aK⟩:=Sep.BN H At0;refine aQ.mono (ae9 rC (λk h1=>?_) dN hf.1 hf.2 hJ0 hv hJf Fx hlr hn) λu w' hu=>?_
  . obtain⟨Fq,h1⟩:=VH k h1
    exact hl▸JC h1
  obtain⟨x,rfl,hx,jH,F1,jB,k⟩:=hu;exact⟨x,rfl,hx,(aK _ F1 _ jH jB k).aF.bE⟩
def ain (H:Mw.Sep w0 S (oq b cols p J::rs) w) (dN:(aZ cols p).2=0) (hf:rM p) (hJ0:(bN cols p J).2=0) (hv:lF p (bN cols p J).1) (hJf: ∀x∈J,dR x) (hJn:J.length<=100):
    aQ prog 19 [av b] w λu w'=>∃x:Value×List Held,u=x.1/\x.2.map (·.2)=(d9 p.group p.cols.length (bN cols p J).1).1/\Mw.Sep w0 S (dz x.1 x.2::oq b cols p J::rs) w':=by
  obtain⟨F0,rC,gQ,aK⟩:=H.focus At0;refine aQ.mono (ae8 rC dN hf.1 hf.2 hJ0 hv hJf hJn) λu w' hu=>?_;obtain⟨x,rfl,hx,jH,F1,jB,k⟩:=hu;exact⟨x,rfl,hx,(aK _ F1 _ jH jB k).bE⟩
def Ox (H:Mw.Sep w0 S (dz v L::rs) w) (hl:L.map (·.2)=l) (hn:l.length<=100000) (mU: ∀x∈l,x.row.length<=100000):
    aQ prog 16 [v] w λu w'=>u=.tuple #[]/\Mw.Sep w0 S rs w':=by
  obtain⟨F0,rC,gQ,aK⟩:=H.focus At0;refine aQ.mono (ahH rC (by rw[<-hl,zae]at hn;exact hn) λb hb=>mU _ (hl▸zar.2 ⟨b,hb,rfl⟩)) λu w' hu=>?_;obtain⟨rfl,jH,F1,jB,k⟩:=hu;exact⟨rfl,(aK _ F1 _ jH jB k).bI⟩
def am4 (H:Mw.Sep w0 S rs w) (C:aaU cols p) (hc:aJ w vc aM 7 cols) (hp:fZ w vp p) (hT:gT w):
    aQ prog 7 [vc,vp] w λu w'=>∃pv:Value,u=.tuple #[pv,I (aZ cols p).2]/\Kept noB w w'/\((aZ cols p).2≠0->pv=.pointer none/\Mw.Sep w0 S rs w')/\((aZ cols p).2=0->∃b:Nat,pv=av b/\Mw.Sep w0 S (jZ b cols p []::rs) w'):=
  aQ.mono (aii C hc hp hT) λu w' hu=>by
    obtain⟨pv,rfl,hk,h1,h2⟩:=hu;refine⟨pv,rfl,hk,λh=>⟨h1 h,H.keep hk⟩,λh=>?_⟩;obtain⟨b,rfl,jH,F1,jB,xu⟩:=h2 h;exact⟨b,rfl,H.new jH jB (λb hb=>(xu b hb).resolve_left id)⟩
def akR (H:Mw.Sep w0 S rs w) (C:aaU cols p) (hc:aJ w vc aM 7 cols) (hp:fZ w vp p):
    aQ prog 8 [vc,vp] w λu w'=>∃pv:Value,u=.tuple #[pv,I (aZ cols p).2]/\Kept noB w w'/\((aZ cols p).2≠0->pv=.pointer none/\Mw.Sep w0 S rs w')/\((aZ cols p).2=0->∃b:Nat,pv=av b/\Mw.Sep w0 S (oq b cols p []::rs) w'):=
  aQ.mono (aij C hc hp) λu w' hu=>by
    obtain⟨pv,rfl,hk,h1,h2⟩:=hu;refine⟨pv,rfl,hk,λh=>⟨h1 h,H.keep hk⟩,λh=>?_⟩;obtain⟨b,rfl,jH,F1,jB,xu⟩:=h2 h;exact⟨b,rfl,H.new jH jB (λb hb=>(xu b hb).resolve_left id)⟩
def uG {L:List zl} (H:Mw.Sep w0 S (NW vw vc s L::rs) w): ∃A a B b,vw=.slice A s.length a/\vc=.slice B (mG L).length b:=by
 obtain⟨A,a,hA,_,_⟩:=Sep.bH H.bE At0;obtain⟨B,b,hB,_,_⟩:=Sep.bH H.bE.aF.bE At0;exact⟨A,a,B,b,hA,hB⟩
def aaV {put:HP->List HP} {L:List zl} (H:Mw.Sep w0 S rs w) (hat:At rs (NW vw vc p.wh L) put) (h:L.map (·.2)=p.cols):fZ w (agg [vw,vc,I p.group]) p:=by
 obtain⟨F,hp,_,_⟩:=H.focus hat;have:=Yf p.group hp;rw[h]at this;exact this
def aio {vk:Value} {L:List zl} (H:Mw.Sep w0 S (NW vw vc s L::aU 49 7 aM vk cols::rs) w) (hs:s.length<=1000) (hn:L.length<=1000) (dK: ∀b∈L,b.2.steps.length<=1000) (hc:cols.length<=1000):
    aQ prog 9 [agg [vw,vc,I g],vk] w λu w'=>u=.tuple #[]/\Mw.Sep w0 S rs w':=by
  obtain⟨F0,rC,gQ,aK⟩:=H.aR.focus At0;refine aQ.mono (aik rC hs hn dK hc) λu w' hu=>?_;obtain⟨rfl,jH,F1,jB,k⟩:=hu;exact⟨rfl,(aK _ F1 _ jH jB k).bI⟩
def Cj (ok:Prop) [Decidable ok] (pv:Value) (q:Nat->HP):HP:=if ok then exH λb:Nat=>star (jk (pv=av b)) (q b)else jk (pv=.pointer none)
section
variable {w w0:Wd} {S:NP} {rs:List HP} {ok:Prop} [Decidable ok] {pv:Value} {q:Nat->HP} {b:Nat}
def Oy (H:Mw.Sep w0 S (Cj ok pv q::rs) w) (h:ok): ∃b:Nat,pv=av b/\Mw.Sep w0 S (q b::rs) w:=by
 unfold Cj at H;rw[zac h]at H;obtain⟨b,k⟩:=Sep.ex0 H;obtain⟨e,I⟩:=Sep.ru k.bE;exact⟨b,e,I⟩
def aaW (H:Mw.Sep w0 S (Cj ok pv q::rs) w) (h: ¬ok):pv=.pointer none/\Mw.Sep w0 S rs w:=by
 unfold Cj at H;rw[zaa h]at H;exact Sep.ru H
def afm (H:Mw.Sep w0 S (Cj ok pv q::rs) w): ∃a,pv=.pointer a/\a.isNone=decide (¬ok):=by
 by_cases h:ok
 .obtain⟨b,rfl,_⟩:=Oy H h
  exact⟨_,rfl,(zal (λh'=>h' h)).symm⟩
 obtain⟨rfl,_⟩:=aaW H h;exact⟨_,rfl,(zap h).symm⟩
def Yu (H:Mw.Sep w0 S (q b::rs) w) (h:ok):Mw.Sep w0 S (Cj ok (av b) q::rs) w:=by
 unfold Cj;rw[zac h];exact Sep.tY (p:=λb':Nat=>star (jk (av b=av b')) (q b')) b ((Sep.jP (φ:=av b=av b) rfl H).aR)
def K4 (H:Mw.Sep w0 S rs w) (h: ¬ok):Mw.Sep w0 S (Cj ok (.pointer none) q::rs) w:=by
 unfold Cj;rw[zaa h];exact Sep.jP (φ:=Value.pointer none=.pointer none) rfl H
end
def aro (C:aaU cols p) (hc:aJ w vc aM 7 cols) (hp:fZ w vp p) (hT:gT w):
    aQ prog 7 [vc,vp] w λu w'=>∃pv:Value,u=.tuple #[pv,I (aZ cols p).2]/\True/\Turn noB (Cj ((aZ cols p).2=0) pv λb=>jZ b cols p []) w w':=
  aQ.mono (am4 (Sep.aH w) C hc hp hT) λu w' hu=>by
    obtain⟨pv,rfl,hk,h1,h2⟩:=hu;refine⟨pv,rfl,trivial,?_⟩
    by_cases h:(aZ cols p).2=0
    . obtain⟨b,rfl,H⟩:=h2 h
      exact(Yu H h).first.turn
    obtain⟨rfl,H⟩:=h1 h;exact(K4 H h).first.turn
def ao4 (C:aaU cols p) (hc:aJ w vc aM 7 cols) (hp:fZ w vp p):
    aQ prog 8 [vc,vp] w λu w'=>∃pv:Value,u=.tuple #[pv,I (aZ cols p).2]/\True/\Turn noB (Cj ((aZ cols p).2=0) pv λb=>oq b cols p []) w w':=
  aQ.mono (akR (Sep.aH w) C hc hp) λu w' hu=>by
    obtain⟨pv,rfl,hk,h1,h2⟩:=hu;refine⟨pv,rfl,trivial,?_⟩
    by_cases h:(aZ cols p).2=0
    . obtain⟨b,rfl,H⟩:=h2 h
      exact(Yu H h).first.turn
    obtain⟨rfl,H⟩:=h1 h;exact(K4 H h).first.turn
def GQ (w:Wd) (v:Value) (q:List (List aG)):Prop:=∃r:LV,aJ w v LG 1 r/\r.length=q.length/\∀(i:Nat) x l,r[i]? =some x->q[i]? =some l->dS w x l
def GQ.keep {w w':Wd} {v:Value} {q:List (List aG)} (h:GQ w v q) (hk:Kept noB w w'):GQ w' v q:=by
 obtain⟨r,h1,h2,h3⟩:=h;exact⟨r,h1.keep hk,h2,λi x l hx hl=>(h3 i x l hx hl).keep hk⟩
structure qd (k:Nat) (l:List aG):Prop where
 few:l.length<=k
 fit: ∀x∈l,fits x.w
 row: ∀x∈l,x.row.length<=100
def J9 (k:Nat):qd k []:=⟨zai _,λ_ h=>zas h zam,λ_ h=>zas h zam⟩
variable {k:Nat}
def qd.mono {m:Nat} (h:qd k l) (hm:k<=m):qd m l:=⟨zck h.few hm,h.fit,h.row⟩
def qd.app {m:Nat} {a b:List aG} (h:qd k a) (h2:qd m b):qd (k+m) (a++b):=
 ⟨by rw[zad];have:=h.few;have:=h2.few;omega,λx hx=>(zbk.1 hx).elim (h.fit x) (h2.fit x),λx hx=>(zbk.1 hx).elim (h.row x) (h2.row x)⟩
def aip: ∀x∈(cO l).1,∃y∈l,y.row=x.row:=λx hx=>by
 unfold cO at hx
 split at hx
 .exact su.1 (Jl.1 hx).1
 exact zas hx zam
def akS (h:isZ l): ∀x∈l,fits x.w:=λx hx=>zbd (p:= -9223372036854775808<=x.w/\x.w<=9223372036854775807) (h.2.2 x hx)
def ER (hl:l.length<=k) (hr: ∀x∈l,x.row.length<=100):qd k (cO l).1:=
 ⟨zck (Gx l) hl,akS uW,λx hx=>by
  obtain⟨y,hy,e⟩:=aip x hx;rw[<-e];exact hr y hy⟩
variable {n:Nat}
def ES (hn:n<=16) (hg:g<=n) (hT: ∀x∈T,x.row.length=n):qd T.length (d9 g n T).1:=by
 by_cases h:(d9 g n T).2=0
 .by_cases hg0:g<0
  .unfold d9
   rw[zac hg0];exact ER (zbi _) λx hx=>by rw[hT x hx];omega
  rw[jm hg0 h];obtain⟨hm,hf⟩:=(jD hg0).1 h;refine⟨zck Ol (by rw[zae];exact zbi _),λx hx=>?_,λx hx=>?_⟩
  .rw[Oi x hx];exact⟨dC,dC⟩
  rw[Oj (lM hm) x hx];omega
 rw[Xk h];exact J9 _
def aaX {m:List aG} (hn:n<=16) (hg:g<=n) (hT: ∀x∈T,x.row.length=n) (hm: ∀x∈m,x.row.length=n):qd (2*T.length+m.length) (jM g n T m).1:=by
 unfold jM
 split
 .exact J9 _
 have h1:qd (T++m).length (d9 g n (T++m)).1:=ES hn hg λx hx=>(zbk.1 hx).elim (hT x) (hm x);have h2:qd T.length (d9 g n T).1:=ES hn hg hT;have h1f:=h1.few;have h2f:=h2.few;rw[zad]at h1f
 split
 .exact ER oM λx hx=>by rw[hm x hx];omega
 refine ER ?_ λx hx=>?_
 .rw[zad]
  unfold yO;rw[zae];omega
 rcases zbk.1 hx with hx | hx
 .exact h1.row x hx
 unfold yO at hx;obtain⟨y,hy,rfl⟩:=zar.1 hx;exact h2.row y hy
def aaY (dN:(aZ cols p).2=0) (hv:lF p T):qd T.length (d9 p.group p.cols.length T).1:=by
 have Lm:=mQ dN;exact ES Lm.2.1 Lm.2.2.2 λx hx=>(hv.items x hx).2.1
def Yv (dN:(aZ cols p).2=0) (hf:rM p) (hv:lF p T) (Fx: ∀x∈l,dR x):qd (2*T.length+l.length) (fq cols p T l).1:=by
 have Lm:=mQ dN;unfold fq
 split
 .exact J9 _
 refine(aaX Lm.2.1 Lm.2.2.2 (λx hx=>(hv.items x hx).2.1) λx hx=>(y7 hf.2 Fx x hx).2.1).mono ?_;have:=nJ (cols:=cols) (p:=p) l;omega
def Yw {W:Wd}: ∀r:List (Value×Int),(∀x∈r,(∃l,aJ W x.1 ah 3 l/\jA l)/\fits x.2)->∃l:List aG,gN W r l/\∀o∈l,dR o
 | [],_=>⟨[],⟨rfl,λi x o h=>by cases h⟩,λo h=>zas h zam⟩
 | x::r,h=>by
  obtain⟨⟨l,hl,hf⟩,hw⟩:=h x zao;obtain⟨q,⟨h1,h2⟩,hc⟩:=Yw r λy hy=>h y (zau _ hy);refine⟨⟨l,x.2⟩::q,⟨by rw[zav,zav,h1],λi y o hy ho=>?_⟩,λo ho=>?_⟩
  .cases i with
   | zero=>
    rw[zca]at hy ho;injection hy with hy
    injection ho with ho
    subst hy ho;exact hl
   | succ i=>exact h2 i y o hy ho
  rcases zbb.1 ho with e | e
  .subst e;exact⟨hw,hf⟩
  exact hc o e
def acQ {W:Wd}: ∀r:LV,(∀x∈r,∃l,dS W x l/\∀o∈l,dR o)->∃q:List (List aG),(r.length=q.length/\∀(i:Nat) x l,r[i]? =some x->q[i]? =some l->dS W x l)/\∀l∈q,∀o∈l,dR o
 | [],_=>⟨[],⟨rfl,λi x o h=>by cases h⟩,λo h=>zas h zam⟩
 | x::r,h=>by
  obtain⟨l,hl,hf⟩:=h x zao;obtain⟨q,⟨h1,h2⟩,hc⟩:=acQ r λy hy=>h y (zau _ hy);refine⟨l::q,⟨by rw[zaq,zaq,h1],λi y o hy ho=>?_⟩,λo ho=>?_⟩
  .cases i with
   | zero=>
    rw[zca]at hy ho;injection hy with hy
    injection ho with ho
    subst hy ho;exact hl
   | succ i=>exact h2 i y o hy ho
  rcases zbb.1 ho with e | e
  .subst e;exact hf
  exact hc o e
section
variable {H:Type} {enc:Td×Value->H} {W:Wd} {r:Reach} {base:Nat} {v:Value} {d:DataW H} {ps:List MemPlace}
def aiq {n0:Nat} {y:DataW H×List MemPlace} (h:DataW.trod enc prog W 0 (λ_=>true) true n0 58 [v]=some y): ∃l:List aC,aJ W v ah 3 l/\jA l:=by
 obtain⟨A,c,l,rfl,h2,h3,h4,h5⟩:=uI (f:=ah) (good:=λx:aC=>fits x.n) (s:=3) underlying58 kR (λ_=>rfl) (λn cs y hl hc=>QH hl hc) h;exact⟨l,yU h2 h3 h4,h5⟩
def afn {cs:LV} {y:DataW H×List MemPlace} (hl:cs.length=2) (hc:DataW.trod enc prog W 0 (λ_=>true) true n 60 cs=some y): ∃x:Value×Int,cs=aA x/\(∃l,aJ W x.1 ah 3 l/\jA l)/\fits x.2:=by
 have hf:=nO underlying60 kR hc kR hl;obtain⟨v0,_,_,LY,h0⟩:=hf 0 _ rfl;obtain⟨v1,_,_,Tt,h1⟩:=hf 1 _ rfl;obtain⟨l,hr,Mr⟩:=aiq h0;obtain⟨m,hm,_,wm⟩:=DataW.trod_int underlying2 h1;injection hm with hm _
 subst hm
 match cs,hl with
 | [c0,c1],_=>
  simp only[zca,zcm,Option.some.injEq]at LY Tt;subst LY Tt;exact⟨(c0,m),rfl,⟨l,hr,Mr⟩,TT rfl wm⟩
def air {n0:Nat} {y:DataW H×List MemPlace} (h:DataW.trod enc prog W 0 (λ_=>true) true n0 41 [v]=some y): ∃l:List aG,dS W v l/\∀x∈l,dR x:=by
 obtain⟨A,c,q,rfl,h2,h3,h4,h5⟩:=uI (f:=aA) (good:=λx:Value×Int=>(∃l,aJ W x.1 ah 3 l/\jA l)/\fits x.2) (s:=2) underlying41 kR (λ_=>rfl) (λn cs y hl hc=>afn hl hc) h;obtain⟨l,hr,hf⟩:=Yw q h5;exact⟨l,⟨q,yU h2 h3 h4,hr⟩,hf⟩
def aaZ (hv:Value.okWide prog W r base 27 v) (h:DataW.Trod enc prog W 0 (λ_=>true) true 27 v d ps): ∃q:List (List aG),GQ W v q/\∀l∈q,∀x∈l,dR x:=by
 obtain⟨A,c,q,rfl,h2,h3,h4,h5⟩:=R7 (f:=LG) (good:=λx:Value=>∃l,dS W x l/\∀o∈l,dR o) (s:=1) underlying27 kR (λ_=>rfl) (λn cs y hl hc=>by
  match cs,hl with
  | [a],_=>exact⟨a,rfl,air hc⟩) hv h
 obtain⟨l,⟨hr,hr'⟩,hf⟩:=acQ q h5;exact⟨l,⟨q,yU h2 h3 h4,hr,hr'⟩,hf⟩
end
end Go.Proofs.Mw
