/-
 The law's examples;walked.
-/
import Derived.Test.YtbfjonalkaophaaGreatDoorNk29
set_option linter.all false
set_option maxRecDepth 4000
namespace Go.Proofs.Mw
open Go.Lib Go.Proofs.Tryz
attribute [local irreducible] FW FL FG FGn jX lg gD l7 Qfn ah
def aa7 (x:aH):Bool:=decide (-9223372036854775808<=x.w/\x.w<=9223372036854775807)&&x.row.all λc=>decide (-9223372036854775808<=c.n/\c.n<=9223372036854775807)
def mh {l:List aH} (h:l.all aa7=true): ∀x∈l,dQ x:=λx d=>by
 have k:=zaz.1 h x d;unfold aa7 at k;rw[zbr]at k;refine⟨zbe (p:= -9223372036854775808<=x.w/\x.w<=9223372036854775807) k.1,λc a=>?_⟩;exact zbe (p:= -9223372036854775808<=c.n/\c.n<=9223372036854775807) (zaz.1 k.2 c a)
def sZ {x:List aH×Int} {a:List aH} {e:Int} (h:x=(a,e)):(decide (x.1=a)&&decide (x.2=e))=true:=by subst h;simp
def fA1: ∀x∈lA1,dQ x:=mh dC
def fA2: ∀x∈lA2,dQ x:=mh dC
def fG1: ∀x∈lG1,dQ x:=mh dC
def fG2: ∀x∈lG2,dQ x:=mh dC
def fG3: ∀x∈lG3,dQ x:=mh dC
def fD: ∀x∈lD,dQ x:=mh dC
def fO1: ∀x∈lO1,dQ x:=mh dC
def fO2: ∀x∈lO2,dQ x:=mh dC
def QS:tA1.length<=10/\tA2.length<=10/\tG1.length<=10/\tG2.length<=10:=by decide+kernel
def ado:bY plA.wh/\∀o∈plA.cols,bY o.steps:=(zn aiS).2.1
def JD:bY plG.wh/\∀o∈plG.cols,bY o.steps:=(zn afP).2.1
def aii:bY plO.wh/\∀o∈plO.cols,bY o.steps:=(zn aiT).2.1
def agi:lG plA tA1:=l5 (holds_nil plA) ado.2 fA1 dC
def ajQ:lG plA tA2:=l5 agi ado.2 fA2 (by have:=QS.1;have h:lA2.length=2:=rfl;omega)
def agj:lG plG tG1:=l5 (holds_nil plG) JD.2 fG1 dC
def agk:lG plG tG2:=l5 agj JD.2 fG2 (by have:=QS.2.2.1;have h:lG2.length=2:=rfl;omega)
def agl:eU pQ plG tG2 lG3=tG2:=by unfold eU;rw[pG.2.2.2.1,zab dC]
def agm:eU pQ plO [] lO1=[]:=by unfold eU;rw[Jv.2.1,zab dC]
variable {w:Wd}
set_option maxHeartbeats 2000000 in
theorem nY (hT:gK w):Rk Tryz.prog 11 [] w (.bool true):=by
 have H:=Sep.aI w;have G: ∀wx,aS noB w wx->gK wx:=λwx h=>hT.aK h;refine Ut Tryz.func11 ?_;refine Nz (JB aiS Ev.1 dC dC (hT.aK H.au)) (λbA w5 _ H5 k4=>?_);refine Nz (jg 1 1 aV) (λx1 w9 _ H9 k8=>?_);refine Nz (jg (-2) 1 bV) (λx2 wa _ Ha ka=>?_);refine Nz (jg 3 2 aV) (λx3 wb _ Hb kb=>?_);refine Bs Hb ([(x1,1),(x2,1),(x3,2)].flatMap aD) (λbs wc Hc kc=>?_);have Hc:=uN Hc;refine Mv ?_;refine fQ (fs:=[]) (cs:=[]) (vals:=[I 3]) rfl (JA 3) rfl rfl (λv wd g=>?_);obtain⟨y1,rfl,_,k,F,a,c⟩:=g;have He:=Hc.new k a (λb r=>(c b r).resolve_left id);refine Bs He ([(y1,3)].flatMap aD) (λbs2 we Hf kd=>?_);have Hf:=jF Hf;refine aO (xS (li:=lA1) (lw:=[Kv 3]) (e:=0) Hf.aZ G Ev.1 ado.1 ado.2 (holds_nil plA) fA1 dC) rfl rfl (λv wf g=>?_);obtain⟨rfl,Hg⟩:=g;rw[sZ Ev.2.1];refine Vv (ah.not rfl) (Mv ?_);refine eO (t:=24) rfl (λSa=>?_) (λSa=>?_)
 .exact Bool.noConfusion Sa
 refine Nz (jg 1 (-1) aV) (λx4 wg _ Hh ke=>?_);refine On (Nz (jg (-2) (-1) bV) (λx5 wi _ Hi kf=>?_));refine On (Bs Hi ([(x4, -1),(x5, -1)].flatMap aD) (λz wj Hj kg=>?_));have Hj:=jk Hj;refine V1 ?_;refine fQ (fs:=[]) (cs:=[]) (vals:=[I (-1)]) rfl (JA (-1)) rfl rfl (λv wk g=>?_);obtain⟨y2,rfl,_,k,F,a,c⟩:=g;have Hk:=Hj.new k a (λb r=>(c b r).resolve_left id);refine On (Bs Hk ([(y2, -1)].flatMap aD) (λbs4 wl Hl kh=>?_));have Hl:=jF Hl;refine On (aO (xS (T:=tA1) (li:=lA2) (lw:=[Kv (-1)]) (e:=0) Hl.aZ G Ev.1 ado.1 ado.2 agi fA2 dC) rfl rfl (λv wm g=>?_));obtain⟨rfl,Hm⟩:=g;rw[sZ Ev.2.2.1];refine On (Vv (ah.not rfl) (V2 ?_));refine eO (t:=35) rfl (λSb=>?_) (λSb=>?_)
 .exact Bool.noConfusion Sb
 refine V1 ?_;obtain⟨F0,hpF,hS0,ag6⟩:=Hm.bG At0;refine aO (Nn (T:=tA2) hpF Ev.1 ajQ) rfl rfl (λv wn g=>?_);obtain⟨xr,rfl,hxr,k,F,a,c⟩:=g;have Hn:=(ag6 _ F _ k a c).bW;rw[Ev.2.2.2]at hxr;refine V1 ?_;refine fQ (fs:=[]) (cs:=[]) (vals:=[I 2]) rfl (JA 2) rfl rfl (λv wo g=>?_);obtain⟨y3,rfl,_,k,F,a,c⟩:=g;have Ho:=Hn.new k a (λb r=>(c b r).resolve_left id);refine On (Bs Ho ([(y3,2)].flatMap aD) (λbs5 wp Hp ki=>?_));have Hp:=jF Hp;refine On ?_;have hxI:=cZ Hp At1;rw[hxr]at hxI;refine Kz (qx (m:=[Kv 2]) hxI ⟨_,(Sep.dh Hp At0).1,(Sep.dh Hp At0).2⟩) (λwq Hq kj=>?_);rw[zau (show(([Kv 2],(0:Int)):List aH×Int).1=[Kv 2]from rfl)];refine On (Vv (ah.not rfl) (Pf ?_));refine Qn (Cd rfl (λIe=>?_) (λIe=>?_))
 .exact Bool.noConfusion Ie
 refine Nz (JB afP pG.1 dC dC (hT.aK Hq.au)) (λN wr _ Hr kk=>?_);refine V1 ?_;refine Vb (aj FY) ?_;refine Vb (aj (iQ aV)) ?_;have Hs:=Hr.first;refine Az (λb5 ws Hs kl=>?_);refine Az (λb6 wt Ht km=>?_);refine Tz (λwu Hu=>?_);refine Tz (λwv Hv=>?_);refine Qn (dU (λx:Nat×Nat=>[(4,aC x.1),(6,aC x.2)]) (λx w'=>Mw.Sep w noB [j4 x.1 pQ plG tG2,blk x.2 (aj (iQ aV)) 48] w') ?_ ?_)
 .refine Dz (λS ww Hw=>?_)
  refine F7 (List.replicate 12 true++List.replicate 17 false) [(0,true)] (λx:(Nat×List (Value×Int))×Nat×List (Value×Int)=>[(2,.func (.func 39) #[] #[]),(4,aC N),(5,aC b5),(6,aC b6),(47,aC N),(51,.slice (some ⟨x.1.1,0,none⟩) 3 3),(58,.slice (some ⟨x.2.1,0,none⟩) 2 2)]) (λx w'=>Mw.Sep w noB [dx (nJ (.slice (some ⟨x.2.1,0,none⟩) 2 2) x.2.2 [KS FY 1 1 1,KS (iQ aV) 2 7 1]) (nJ (.slice (some ⟨x.1.1,0,none⟩) 3 3) x.1.2 lG1),j4 N pQ plG [],blk b6 (aj (iQ aV)) 48,blk b5 (aj FY) 48] w') ?_ ?_
  .rintro⟨⟨bs,r1⟩,bq,r2⟩ τ wy Hx
   dsimp only at Hx ⊢;refine F7 (List.replicate 26 true++[false,false,false]) [(15,true)] (λx:(Nat×List (Value×Int))×Nat×List (Value×Int)=>[(4,aC N),(6,aC b6),(61,.bool false),(62,aC N),(65,.slice (some ⟨x.1.1,0,none⟩) 2 2),(72,.slice (some ⟨x.2.1,0,none⟩) 2 2)]) (λx w'=>Mw.Sep w noB [dx (nJ (.slice (some ⟨x.2.1,0,none⟩) 2 2) x.2.2 [KS (iQ aV) 2 7 (-1),KS (iQ aV) 2 14 1]) (nJ (.slice (some ⟨x.1.1,0,none⟩) 2 2) x.1.2 lG2),j4 N pQ plG tG1,blk b6 (aj (iQ aV)) 48] w') ?_ ?_
   .rintro⟨⟨z,r3⟩,E,r4⟩ τ wz Hy
    dsimp only at Hy ⊢;refine p8 S 26 [] rfl kR (xS (T:=tG1) (li:=lG2) (lw:=[KS (iQ aV) 2 7 (-1),KS (iQ aV) 2 14 1]) (e:=0) Hy G pG.1 JD.1 JD.2 agj fG2 dC) rfl kR kR (λv wD g=>?_);obtain⟨rfl,Hz⟩:=g;rw[sZ pG.2.2.1];refine⟨sT,?_⟩;refine GS (Gn rfl (λ_=>ah.not rfl) ?_);refine O1 ?_;refine fZ S kR ?_;refine ig (Cd rfl (λIf=>?_) (λIf=>?_))
    .exact Bool.noConfusion If
    refine V0 ?_;exact aA (N,b6) tR (Hz.firsts (l:=[_,_]))
   intro K26;refine p8 S 12 [] rfl kR (xS (li:=lG1) (lw:=[KS FY 1 1 1,KS (iQ aV) 2 7 1]) (e:=0) Hx G pG.1 JD.1 JD.2 (holds_nil plG) fG1 dC) rfl kR kR (λv wE g=>?_);obtain⟨rfl,HA⟩:=g;rw[sZ pG.2.1];refine⟨sT,?_⟩;refine GS (Gn rfl (λ_=>ah.not rfl) ?_);refine V1 ?_;refine qQ (t:=61) rfl (λSd=>?_) (λSd=>?_)
   .exact Bool.noConfusion Sd
   refine V1 ?_;refine Gm S 19 ?_;refine V1 ?_;refine Gm S 22 ?_;refine V1 ?_;refine dF S 16 [(23,false),(22,true),(20,false),(19,true),(15,true)] HA (jg 2 (-1) aV) (h:=λx4 wF _ HB kn=>⟨sU,?_⟩);refine dF S 17 [(23,false),(22,true),(20,false),(19,true),(15,true)] HB (jg 9 1 aV) (h:=λx5 wG _ HC ko=>⟨sU,?_⟩);refine jw S (e1:=18) (e2:=21) kR ?_ ?_
   .refine dX S 18 [(23,false),(22,true),(20,false),(19,true),(15,true)] HC (xs:=[.tmp 63,.tmp 64]) (out:=[(x4, -1),(x5,1)].flatMap aD) (dI.many rfl rfl (dI.many rfl rfl dI.nil)) rfl rfl rfl (h:=λz wH HD=>?_)
    (have HD:=jk HD)
    refine⟨sU,?_⟩;refine lH S 21 [(23,false),(22,true),(15,true)] (y:=.tmp 66) (fs:=[]) (cs:=[]) (vals:=[agg (aj (iQ aV)),I 2,I 7,I (-1)]) rfl (nX (iQ aV) 2 7 (-1)) (h:=λv wI g=>?_);obtain⟨y3,rfl,_,k,F,a,c⟩:=g;have HE:=HD.new k a (λb r=>(c b r).resolve_left id);refine⟨sU,?_⟩;refine lH S 24 _ (y:=.tmp 69) (fs:=[]) (cs:=[]) (vals:=[agg (aj (iQ aV)),I 2,I 14,I 1]) rfl (nX (iQ aV) 2 14 1) (h:=λv wJ g=>?_);obtain⟨y4,rfl,_,k,F,a,c⟩:=g;have HF:=HE.new k a (λb r=>(c b r).resolve_left id);refine⟨sT,?_⟩;refine Gz S 25 _ HF ([(y3, -1),(y4,1)].flatMap aD) (h:=λE wK HG=>?_)
    (have HG:=jk HG)
    refine⟨sT,?_⟩;exact K26 ((z,_),E,_) _ _ tR (HG.aZ.firsts (l:=[_,_,_])) rfl
   refine pX S 21 [(23,false),(22,true),(15,true)] (y:=.tmp 66) (fs:=[]) (cs:=[]) (vals:=[agg (aj (iQ aV)),I 2,I 7,I (-1)]) rfl (nX (iQ aV) 2 7 (-1)) (h:=λv wL g=>?_);obtain⟨y3,rfl,_,k,F,a,c⟩:=g;have HH:=HC.new k a (λb r=>(c b r).resolve_left id);refine⟨sU,?_⟩;refine jw S (e1:=18) (e2:=24) kR ?_ ?_
   .refine dX S 18 [(23,false),(22,true),(15,true)] HH (xs:=[.tmp 63,.tmp 64]) (out:=[(x4, -1),(x5,1)].flatMap aD) (dI.many rfl rfl (dI.many rfl rfl dI.nil)) rfl rfl rfl (h:=λz wM HI=>?_)
    (have HI:=jk HI.bB.bB.aR)
    refine⟨sU,?_⟩;refine lH S 24 _ (y:=.tmp 69) (fs:=[]) (cs:=[]) (vals:=[agg (aj (iQ aV)),I 2,I 14,I 1]) rfl (nX (iQ aV) 2 14 1) (h:=λv wN g=>?_);obtain⟨y4,rfl,_,k,F,a,c⟩:=g;have HJ:=HI.new k a (λb r=>(c b r).resolve_left id);refine⟨sT,?_⟩;refine Gz S 25 _ HJ ([(y3, -1),(y4,1)].flatMap aD) (h:=λE wO HK=>?_)
    (have HK:=jk HK.bB.aR.aR)
    refine⟨sT,?_⟩;exact K26 ((z,_),E,_) _ _ tR (HK.aZ.firsts (l:=[_,_,_])) rfl
   refine pX S 24 _ (y:=.tmp 69) (fs:=[]) (cs:=[]) (vals:=[agg (aj (iQ aV)),I 2,I 14,I 1]) rfl (nX (iQ aV) 2 14 1) (h:=λv wP g=>?_);obtain⟨y4,rfl,_,k,F,a,c⟩:=g;have HL:=HH.new k a (λb r=>(c b r).resolve_left id);refine⟨sT,?_⟩;refine jw S (e1:=18) (e2:=25) kR ?_ ?_
   .refine dX S 18 _ HL (xs:=[.tmp 63,.tmp 64]) (out:=[(x4, -1),(x5,1)].flatMap aD) (dI.many rfl rfl (dI.many rfl rfl dI.nil)) rfl rfl rfl (h:=λz wQ HM=>?_)
    (have HM:=jk HM.eZ.eZ.aR)
    refine⟨sT,?_⟩;refine Gz S 25 _ HM ([(y3, -1),(y4,1)].flatMap aD) (h:=λE wR HN=>?_)
    (have HN:=jk HN.bB.bB.aR)
    refine⟨sT,?_⟩;exact K26 ((z,_),E,_) _ _ tR (HN.aZ.firsts (l:=[_,_,_])) rfl
   refine dX S 25 _ HL (xs:=[.tmp 68,.tmp 71]) (out:=[(y3, -1),(y4,1)].flatMap aD) (dI.many rfl rfl (dI.many rfl rfl dI.nil)) rfl rfl rfl (h:=λE wS HO=>?_)
   (have HO:=jk HO)
   refine⟨sT,?_⟩;refine Gz S 18 _ HO ([(x4, -1),(x5,1)].flatMap aD) (h:=λz wT HQ=>?_)
   (have HQ:=jk HQ.bB.bB.aR)
   refine⟨sT,?_⟩;exact K26 ((z,_),E,_) _ _ tR (HQ.aJ.aZ.firsts (l:=[_,_,_])) rfl
  intro K12;refine Gm S 0 ?_;refine Gm S 5 ?_;refine V1 ?_;refine Gm S 8 ?_;refine V1 ?_;refine dF S 1 [(9,false),(8,true),(6,false),(5,true),(0,true)] Hw (jg 5 1 aV) (h:=λx1 wU _ HR kp=>⟨sU,?_⟩);refine dF S 2 [(9,false),(8,true),(6,false),(5,true),(0,true)] HR (jg 2 1 aV) (h:=λx2 wV _ HS kq=>⟨sU,?_⟩);refine dF S 3 [(9,false),(8,true),(6,false),(5,true),(0,true)] HS (jg 1 1 []) (h:=λx3 wW _ HT kr=>⟨sU,?_⟩);refine jw S (e1:=4) (e2:=7) kR ?_ ?_
  .refine dX S 4 [(9,false),(8,true),(6,false),(5,true),(0,true)] HT (xs:=[.tmp 48,.tmp 49,.tmp 50]) (out:=[(x1,1),(x2,1),(x3,1)].flatMap aD) (dI.many rfl rfl (dI.many rfl rfl (dI.many rfl rfl dI.nil))) rfl rfl rfl (h:=λbs wX HU=>?_)
   (have HU:=uN HU)
   refine⟨sU,?_⟩;refine lH S 7 [(9,false),(8,true),(0,true)] (y:=.tmp 52) (fs:=[]) (cs:=[]) (vals:=[agg (aj FY),I 1,I 1,I 1]) rfl (nX FY 1 1 1) (h:=λv wY g=>?_);obtain⟨y1,rfl,_,k,F,a,c⟩:=g;have HV:=HU.new k a (λb r=>(c b r).resolve_left id);refine⟨sU,?_⟩;refine lH S 10 _ (y:=.tmp 55) (fs:=[]) (cs:=[]) (vals:=[agg (aj (iQ aV)),I 2,I 7,I 1]) rfl (nX (iQ aV) 2 7 1) (h:=λv wZ g=>?_);obtain⟨y2,rfl,_,k,F,a,c⟩:=g;have HW:=HV.new k a (λb r=>(c b r).resolve_left id);refine⟨sT,?_⟩;refine Gz S 11 _ HW ([(y1,1),(y2,1)].flatMap aD) (h:=λbq w_ HX=>?_)
   (have HX:=jk HX)
   refine⟨sT,?_⟩;exact K12 ((bs,_),bq,_) _ _ tR HX.eZ.aR.aR.aZ rfl
  refine pX S 7 [(9,false),(8,true),(0,true)] (y:=.tmp 52) (fs:=[]) (cs:=[]) (vals:=[agg (aj FY),I 1,I 1,I 1]) rfl (nX FY 1 1 1) (h:=λv w149 g=>?_);obtain⟨y1,rfl,_,k,F,a,c⟩:=g;have HY:=HT.new k a (λb r=>(c b r).resolve_left id);refine⟨sU,?_⟩;refine jw S (e1:=4) (e2:=10) kR ?_ ?_
  .refine dX S 4 [(9,false),(8,true),(0,true)] HY (xs:=[.tmp 48,.tmp 49,.tmp 50]) (out:=[(x1,1),(x2,1),(x3,1)].flatMap aD) (dI.many rfl rfl (dI.many rfl rfl (dI.many rfl rfl dI.nil))) rfl rfl rfl (h:=λbs w151 HZ=>?_)
   (have HZ:=uN HZ.eZ.eZ.eZ.bB)
   refine⟨sU,?_⟩;refine lH S 10 _ (y:=.tmp 55) (fs:=[]) (cs:=[]) (vals:=[agg (aj (iQ aV)),I 2,I 7,I 1]) rfl (nX (iQ aV) 2 7 1) (h:=λv w153 g=>?_);obtain⟨y2,rfl,_,k,F,a,c⟩:=g;have H_:=HZ.new k a (λb r=>(c b r).resolve_left id);refine⟨sT,?_⟩;refine Gz S 11 _ H_ ([(y1,1),(y2,1)].flatMap aD) (h:=λbq w155 O=>?_)
   (have O:=jk O.bB.aR.aR)
   refine⟨sT,?_⟩;exact K12 ((bs,_),bq,_) _ _ tR O.eZ.aR.aR.aZ rfl
  refine pX S 10 _ (y:=.tmp 55) (fs:=[]) (cs:=[]) (vals:=[agg (aj (iQ aV)),I 2,I 7,I 1]) rfl (nX (iQ aV) 2 7 1) (h:=λv w158 g=>?_);obtain⟨y2,rfl,_,k,F,a,c⟩:=g;have H158:=HY.new k a (λb r=>(c b r).resolve_left id);refine⟨sT,?_⟩;refine jw S (e1:=4) (e2:=11) kR ?_ ?_
  .refine dX S 4 _ H158 (xs:=[.tmp 48,.tmp 49,.tmp 50]) (out:=[(x1,1),(x2,1),(x3,1)].flatMap aD) (dI.many rfl rfl (dI.many rfl rfl (dI.many rfl rfl dI.nil))) rfl rfl rfl (h:=λbs w160 P=>?_)
   (have P:=uN P.iy.iy.iy.bB)
   refine⟨sT,?_⟩;refine Gz S 11 _ P ([(y1,1),(y2,1)].flatMap aD) (h:=λbq w162 Q=>?_)
   (have Q:=jk Q.bB.bB.aR)
   refine⟨sT,?_⟩;exact K12 ((bs,_),bq,_) _ _ tR Q.eZ.aR.aR.aZ rfl
  refine dX S 11 _ H158 (xs:=[.tmp 54,.tmp 57]) (out:=[(y1,1),(y2,1)].flatMap aD) (dI.many rfl rfl (dI.many rfl rfl dI.nil)) rfl rfl rfl (h:=λbq w165 R=>?_)
  (have R:=jk R)
  refine⟨sT,?_⟩;refine Gz S 4 _ R ([(x1,1),(x2,1),(x3,1)].flatMap aD) (h:=λbs w167 V=>?_)
  (have V:=uN V.eZ.eZ.eZ.bB)
  refine⟨sT,?_⟩;exact K12 ((bs,_),bq,_) _ _ tR V.eZ.aJ.aR.aZ rfl
 rintro⟨N,b6⟩ τ w170 H170;dsimp only at H170;refine Lp ?_;refine Sr ?_;obtain⟨hpg,_,htl⟩:=zn afP;refine Nz (Er txG (.inl oM) oM (hT.aK H170.au)) (λxp w172 _ H172 ks=>?_);rw[hpg]at H172 ⊢;have hPI:fK w172 xp plG:=Sep.dh H172 At0;obtain⟨vw,vc,rfl,hvw,q,hvc,_⟩:=hPI;obtain⟨W,cw,rfl,_,_⟩:=hvw;obtain⟨A,ca,rfl,_,_⟩:=hvc;refine Az (λb7 w178 H178 kt=>?_);refine iF H178 (us:=[.slice W plG.wh.length cw,.slice A q.length ca,I plG.group]) (h:=λw180 H180=>?_);refine O2 ?_;refine Qn (dU (λx:Nat×Nat×OA×Nat=>[(4,aC x.1),(6,aC x.2.1),(10,.slice x.2.2.1 0 x.2.2.2),(11,I 100)]) (λx w'=>Mw.Sep w noB [j4 x.1 pQ plG tG2,blk x.2.1 (aj (iQ aV)) 48] w') ?_ ?_)
 .refine Dz (λu w186 X=>?_)
  refine gY u 1 X (h:=?_);refine Gb u 2 (aj (vQ 2147483648)) ?_;refine jw u (e1:=0) (e2:=3) kR ?_ ?_
  .refine jS u 0 [(2,true),(1,false)] X Ap (h:=λtv w190 _ H190 ku=>⟨sU,?_⟩)
   refine Gz u 3 [(1,false)] H190 ([vQ 2147483648].flatMap aj) (h:=λbc w192 Y=>?_);have Y:Mw.Sep w noB (aY 48 3 aj (.slice (some ⟨bc,0,none⟩) 1 1) [vQ 2147483648]::_) w192:=Sep.nC (n:=1) (s:=3) Y At0 rfl dC;refine⟨sU,?_⟩;refine Gb u 4 (aD (.slice (some ⟨bc,0,none⟩) 1 1,1)) ?_;refine Gz u 5 [(1,false)] Y ([(Value.slice (some ⟨bc,0,none⟩) 1 1,(1:Int))].flatMap aD) (h:=λbi w195 d=>?_)
   (have d:=jF d)
   refine⟨sU,?_⟩;have j:=JD
   first
   | refine dF u 6 _ d (qc (cols:=pQ) (p:=plG) (l:=lD) (gP d At1) dC (Sep.dh d At3) ⟨_,(Sep.dh d At0).1,(Sep.dh d At0).2⟩ j.1 j.2 dC dC dC fD dC (hT.aK d.au)) (h:=λxd w197 o Z kv=>⟨sT,?_⟩)
   | refine dF u 6 _ d (qc (cols:=pQ) (p:=plG) (l:=lD) (gP d At0) dC (Sep.dh d At3) ⟨_,(Sep.dh d At1).1,(Sep.dh d At1).2⟩ j.1 j.2 dC dC dC fD dC (hT.aK d.au)) (h:=λxd w197 o Z kv=>⟨sT,?_⟩)
   refine V5 ?_;obtain⟨xd,L⟩:=xd;dsimp only at o Z;rw[pG.2.2.2.2.2]at o;obtain rfl :L=[]:=zgh.1 o;have Hd:=Z.bW;obtain⟨XA,cX,hX,_,_⟩:=Sep.bX Hd At0;subst hX;refine aA (N,b6,XA,cX) ⟨rfl,rfl,rfl,?_,trivial⟩ (Sep.firsts (l:=[_,_]) Hd.yF.yF);exact zay (λe:List aH×Int=>I e.2) pG.2.2.2.2.2
  refine dX u 3 [(1,false)] X (xs:=[.tmp 84]) (out:=[vQ 2147483648].flatMap aj) (dI.many rfl rfl dI.nil) rfl rfl rfl (h:=λbc w204 K=>?_);have K:Mw.Sep w noB (aY 48 3 aj (.slice (some ⟨bc,0,none⟩) 1 1) [vQ 2147483648]::_) w204:=Sep.nC (n:=1) (s:=3) K At0 rfl dC;refine⟨sU,?_⟩;refine Gb u 4 (aD (.slice (some ⟨bc,0,none⟩) 1 1,1)) ?_;refine jw u (e1:=0) (e2:=5) kR ?_ ?_
  .refine jS u 0 [(4,true),(1,false)] K Ap (h:=λtv w207 _ H207 kw=>⟨sU,?_⟩)
   refine Gz u 5 [(1,false)] H207 ([(Value.slice (some ⟨bc,0,none⟩) 1 1,(1:Int))].flatMap aD) (h:=λbi w209 f=>?_)
   (have f:=jF f.aR.aJ)
   refine⟨sU,?_⟩;have j:=JD
   first
   | refine dF u 6 _ f (qc (cols:=pQ) (p:=plG) (l:=lD) (gP f At1) dC (Sep.dh f At3) ⟨_,(Sep.dh f At0).1,(Sep.dh f At0).2⟩ j.1 j.2 dC dC dC fD dC (hT.aK f.au)) (h:=λxd w211 o J kx=>⟨sT,?_⟩)
   | refine dF u 6 _ f (qc (cols:=pQ) (p:=plG) (l:=lD) (gP f At0) dC (Sep.dh f At3) ⟨_,(Sep.dh f At1).1,(Sep.dh f At1).2⟩ j.1 j.2 dC dC dC fD dC (hT.aK f.au)) (h:=λxd w211 o J kx=>⟨sT,?_⟩)
   refine V5 ?_;obtain⟨xd,L⟩:=xd;dsimp only at o J;rw[pG.2.2.2.2.2]at o;obtain rfl :L=[]:=zgh.1 o;have Hd:=J.bW;obtain⟨XA,cX,hX,_,_⟩:=Sep.bX Hd At0;subst hX;refine aA (N,b6,XA,cX) ⟨rfl,rfl,rfl,?_,trivial⟩ (Sep.firsts (l:=[_,_]) Hd.yF.yF);exact zay (λe:List aH×Int=>I e.2) pG.2.2.2.2.2
  refine dX u 5 [(1,false)] K (xs:=[.tmp 86]) (out:=[(Value.slice (some ⟨bc,0,none⟩) 1 1,(1:Int))].flatMap aD) (dI.many rfl rfl dI.nil) rfl rfl rfl (h:=λbi w218 H218=>?_)
  (have H218:=jF H218)
  refine⟨sU,?_⟩;refine dF u 0 [(1,false)] H218 Ap (h:=λtv w220 _ i ky=>⟨sU,?_⟩);have j:=JD
  first
  | refine dF u 6 _ i (qc (cols:=pQ) (p:=plG) (l:=lD) (gP i At1) dC (Sep.dh i At3) ⟨_,(Sep.dh i At0).1,(Sep.dh i At0).2⟩ j.1 j.2 dC dC dC fD dC (hT.aK i.au)) (h:=λxd w222 o H222 kz=>⟨sT,?_⟩)
  | refine dF u 6 _ i (qc (cols:=pQ) (p:=plG) (l:=lD) (gP i At0) dC (Sep.dh i At3) ⟨_,(Sep.dh i At1).1,(Sep.dh i At1).2⟩ j.1 j.2 dC dC dC fD dC (hT.aK i.au)) (h:=λxd w222 o H222 kz=>⟨sT,?_⟩)
  refine V5 ?_;obtain⟨xd,L⟩:=xd;dsimp only at o H222;rw[pG.2.2.2.2.2]at o;obtain rfl :L=[]:=zgh.1 o;have Hd:=H222.bW;obtain⟨XA,cX,hX,_,_⟩:=Sep.bX Hd At0;subst hX;refine aA (N,b6,XA,cX) ⟨rfl,rfl,rfl,?_,trivial⟩ (Sep.firsts (l:=[_,_]) Hd.yF.yF);exact zay (λe:List aH×Int=>I e.2) pG.2.2.2.2.2
 rintro⟨N,b6,XA,cX⟩ τ w229 M;dsimp only at M;refine Lp ?_;refine V1 ?_;refine Vb (aj (vQ 1)) ?_;refine gF M (cs:=aj (iQ aV)) (h:=?_);refine gF M (cs:=aj (iQ aV)) (h:=?_);refine Bs M ([vQ 1,iQ aV,iQ aV].flatMap aj) (λbc w235 H235 kA=>?_);have H235:Mw.Sep w noB (aY 48 3 aj (.slice (some ⟨bc,0,none⟩) 3 3) [vQ 1,iQ aV,iQ aV]::_) w235:=Sep.nC (n:=3) (s:=3) H235 At0 rfl dC;refine Vb (aD (.slice (some ⟨bc,0,none⟩) 3 3,1)) ?_;refine Bs H235 ([(Value.slice (some ⟨bc,0,none⟩) 3 3,(1:Int))].flatMap aD) (λbi w238 C kB=>?_);have C:=jF C;have C:=Dg C;refine aO (xS (T:=tG2) (li:=lG3) (lw:=[]) (e:=100) C.aZ G pG.1 JD.1 JD.2 agk fG3 dC) rfl rfl (λv w240 g=>?_);obtain⟨rfl,H240⟩:=g;rw[sZ pG.2.2.2.1];rw[agl]at H240;refine Vv (ah.not rfl) (Mv ?_);refine eO (t:=100) rfl (λSf=>?_) (λSf=>?_)
 .exact Bool.noConfusion Sf
 refine V1 ?_;have H247:=Dg (Dg H240);refine aO (xS (T:=tG2) (li:=[]) (lw:=[]) (e:=0) H247.aZ G pG.1 JD.1 JD.2 agk (λx hx=>zas hx zal) dC) rfl rfl (λv w247 g=>?_);obtain⟨rfl,H247⟩:=g;rw[sZ pG.2.2.2.2.1];refine On (Vv (ah.not rfl) (V2 ?_));refine eO (t:=105) rfl (λSg=>?_) (λSg=>?_)
 .exact Bool.noConfusion Sg
 refine Sz (λSh=>?_) (λSh=>?_)
 .exact zas (show((0:Nat):Int)=0 from rfl) Sh
 refine Cz (λIg=>?_) (λIg=>?_)
 .exact zas (by first | exact trivial | rfl) Ig
 refine Nz (JB aiT Jv.1 dC dC (hT.aK H247.au)) (λbO w266 _ H266 kC=>?_);refine Nz (jg 1 1 aV) (λx1 w270 _ H270 kD=>?_);refine Bs H270 ([(x1,1)].flatMap aD) (λbi w272 D kE=>?_);have D:=jF D;have D:=Dg D;refine aO (xS (T:=[]) (li:=lO1) (lw:=[]) (e:=50) D.aZ G Jv.1 aii.1 aii.2 (holds_nil plO) fO1 dC) rfl rfl (λv w274 g=>?_);obtain⟨rfl,H274⟩:=g;rw[sZ Jv.2.1];rw[agm]at H274;refine Mv ?_;refine eO (t:=119) rfl (λSi=>?_) (λSi=>?_)
 .refine Nz (jg 0 1 aV) (λx2 w279 _ H279 kF=>?_)
  refine On (Bs H279 ([(x2,1)].flatMap aD) (λbi2 w281 H281 kG=>?_));have H281:=jF H281;refine On (Vb (aj (vQ 9223372036854775807)) ?_);refine On (Bs H281 ([vQ 9223372036854775807].flatMap aj) (λbc w284 H284 kH=>?_));have H284:Mw.Sep w noB (aY 48 3 aj (.slice (some ⟨bc,0,none⟩) 1 1) [vQ 9223372036854775807]::_) w284:=Sep.nC (n:=1) (s:=3) H284 At0 rfl dC;refine On (Vb (aD (.slice (some ⟨bc,0,none⟩) 1 1,1)) ?_);refine On (Bs H284 ([(Value.slice (some ⟨bc,0,none⟩) 1 1,(1:Int))].flatMap aD) (λbi3 w287 H287 kI=>?_));have H287:=jF H287;refine On (aO (xS (T:=[]) (li:=lO2) (lw:=[⟨[vQ 9223372036854775807],1⟩]) (e:=0) H287.aZ G Jv.1 aii.1 aii.2 (holds_nil plO) fO2 dC) rfl rfl (λv w289 g=>?_));obtain⟨rfl,H289⟩:=g;rw[sZ Jv.2.2];refine V2 ?_;exact⟨rfl,H289.au⟩
 exact Bool.noConfusion Si
def Dm (l:List aH):(lX l).length<=10:=by unfold lX;rw[zae,zah];omega
def JE {l:List aH}: ∀x∈lX l,x.row.length<=12:=λx h=>by
 obtain⟨y,_,rfl⟩:=zav.1 h;show((y.row.take 12).map mZ).length<=12
 rw[zae,zah];omega
def Dn {l:List aH} (h: ∀x∈l,dQ x): ∀x∈lX l,dQ x:=λx g=>by
 obtain⟨y,i,rfl⟩:=zav.1 g;obtain⟨k,a⟩:=h y (zcj i);refine⟨k,λc e=>?_⟩;obtain⟨d,f,rfl⟩:=zav.1 e;exact a d (zcj f)
def Ny (l:List bH):(jr l).length<=70:=by unfold jr;rw[zae,zah];omega
def NA {l:List bH} (h:bY l):bY (jr l):=λx k=>by
 obtain⟨y,a,rfl⟩:=zav.1 k;exact h y (zcj a)
def adp {p:aU} (h:mQ p):mQ (sS p)/\(sS p).cols.length<=18/\(sS p).wh.length<=70/\∀o∈(sS p).cols,o.steps.length<=70:=
 ⟨⟨NA h.1,λo k=>by
  obtain⟨y,a,rfl⟩:=zav.1 k;exact NA (h.2 y (zcj a))⟩,by show((p.cols.take 18).map AY).length<=18;rw[zae,zah];omega,Ny _,λo k=>by
  obtain⟨y,a,rfl⟩:=zav.1 k;exact Ny _⟩
def rT {v:Value} {p:aU} (h:fK w v p): ∃A a B b,v=agg [.slice A p.wh.length a,.slice B p.cols.length b,I p.group]:=by
 obtain⟨c,vc,rfl,⟨A,a,rfl,_⟩,r,⟨B,b,rfl,_⟩,k⟩:=h;exact⟨A,a,B,b,by rw[k.len]⟩
structure JF (cols:List bF) (p:aU):Prop where
 fit:mQ p
 cs:cols.length<=12
 outs:p.cols.length<=18
 wh:p.wh.length<=70
 st: ∀o∈p.cols,o.steps.length<=70
def Li {p:aU} (cols:List bF) (h:mQ p):JF (cols.take 12) (sS p):=by
 obtain⟨k,a,c,d⟩:=adp h;exact⟨k,by rw[zah];omega,a,c,d⟩
variable {cols:List bF} {p:aU} {l:List aH} {vc vp v:Value}
def xU (C:JF cols p) (a:aP w vc aL 7 cols) (f:fK w vp p) (c:dM w v l) (h: ∀x∈l,dQ x) (d:l.length<=100) (k:gK w):
    aX prog 33 [vc,vp,v] w λu g=>∃x:Value×List fH,u=.tuple #[x.1,I (fI cols p l).2]/\x.2.map (·.2)=(fI cols p l).1/\cO noB (dB x.1 x.2) w g:=
  qc a IW f c C.fit.1 C.fit.2 Iw IK (λo e=>by have:=C.st o e;omega) h d k
def Xm (C:JF cols p) (a:aP w vc aL 7 cols) (f:fK w vp p) (c:dM w v l) (h: ∀x∈l,dQ x) (k: ∀x∈l,x.row.length<=1000) (d:l.length<=100):
    aX prog 34 [vc,vp,v] w λu g=>∃x:Value×List fH,u=.tuple #[x.1,I (fI cols p l).2]/\x.2.map (·.2)=(fI cols p l).1/\cO noB (dB x.1 x.2) w g:=
  Zt a IW f c C.fit.1 C.fit.2 Iw IK (λo e=>by have:=C.st o e;omega) h k d
def agn (C:JF cols p) (a:aP w vc aL 7 cols) (d:fK w vp p) (k:gK w):
    aX prog 18 [vc,vp] w λu h=>∃pv:Value,u=.tuple #[pv,I (bD cols p).2]/\aS noB w h/\((bD cols p).2≠0->pv=.pointer none)/\((bD cols p).2=0->∃b:Nat,pv=aC b/\cO noB (j4 b cols p []) w h):=
  Np a IW d C.fit.1 C.fit.2 Iw IK (λo c=>by have:=C.st o c;omega) k
def agp (C:JF cols p) (k:aP w vc aL 7 cols) (c:fK w vp p):
    aX prog 19 [vc,vp] w λu h=>∃pv:Value,u=.tuple #[pv,I (bD cols p).2]/\aS noB w h/\((bD cols p).2≠0->pv=.pointer none)/\((bD cols p).2=0->∃b:Nat,pv=aC b/\cO noB (om b cols p []) w h):=
  aa1 k IW c Iw IK (λo a=>by have:=C.st o a;omega)
def BN {cols:List bF} {vl:Value} (O:aP w vc aL 7 cols) (j:fK w v p) (n:mQ p) (g:dM w vl l) (i: ∀x∈l,dQ x) (N:gK w):Rk Tryz.prog 9 [vc,v,vl] w (.bool true):=by
 have H:=Sep.aI w;obtain⟨Q,Y,q,Z,rfl⟩:=rT j;have C:=Li cols n;have c:=Dn i;have J:=Dm l;have o:=JE (l:=l);refine uU Tryz.func9 ?_;refine Sr (bK H (cs:=[.slice Q p.wh.length Y,.slice q p.cols.length Z,I p.group]) rfl (h:=λb4 w2 R k1=>?_));refine Nz (vO (g.aK R.au)) (λx w6 P L k5=>?_);refine Dz (λk wa e=>?_);refine V1 ?_;refine gY k 2 e (h:=?_);refine Gm k 4 ?_;refine dF k 1 [(4,true),(2,false)] e (qy (O.aK e.au)) (h:=λx1 wb _ y ka=>⟨sU,?_⟩);refine dF k 3 _ y (vP (j.aK y.au)) (h:=λx2 wc _ a kb=>⟨sT,?_⟩);refine dF k 5 _ a (xU (l:=lX l) C (gP a At1) (Sep.dh a At0) (P▸cZ a At2) c oM (N.aK a.au)) (h:=λxd wd t T kc=>⟨sT,?_⟩);refine Dz (λS we f=>?_);refine V1 ?_;refine gY S 2 f (h:=?_);refine Gm S 4 ?_;refine dF S 1 [(4,true),(2,false)] f (qy (O.aK f.au)) (h:=λx3 wf _ z kd=>⟨sU,?_⟩);refine dF S 3 _ z (vP (j.aK z.au)) (h:=λx4 wg _ A ke=>⟨sT,?_⟩);refine dF S 5 _ A (vO (g.aK A.au)) (h:=λx5 wi r d kf=>⟨sT,?_⟩);refine dF S 6 _ d (Xm (l:=lX l) C (gP d At2) (Sep.dh d At1) (r▸cZ d At0) c (λb F=>by have:=o b F;omega) oM) (h:=λxe wj u D kg=>⟨sT,?_⟩);refine Kz (qx (l:=(fI (cols.take 12) (sS p) (lX l)).1) (m:=(fI (cols.take 12) (sS p) (lX l)).1) (t▸cZ D At4) (u▸cZ D At0)) (λwk V kh=>?_);refine Mv ?_;refine Sz (λG=>?_) (λG=>?_)
 .refine Sz (λK=>?_) (λK=>?_)
  .refine Nz (vO (g.aK V.au)) (λx6 wl s E ki=>?_)
   refine On (Kz (qx (l:=lX l) (m:=lX l) (P▸cZ E At8) (s▸cZ E At0)) (λwm W kj=>?_));refine Sz (λM=>?_) (λM=>?_)
   .refine On (Kz (nY (N.aK W.au)) (λwn X kk=>?_))
    refine V2 ?_;exact⟨rfl,X.au⟩
   exact aB M
  exact aB K
 exact aB G
def aln:HP:=fA λ_=>True
variable {F:NP}
variable {vw:Value} {g:Int} {s:List bH}
theorem agq {vcols:Value} {L:List zk} (hp:(dx (Nc vw vc s L) (aY 50 7 aL vcols cols)).ok F w) (hs:s.length<=1000) (hn:L.length<=1000) (O: ∀b∈L,b.2.steps.length<=1000) (hc:cols.length<=1000):
    aX Tryz.prog 20 [agg [vw,vc,I g],vcols] w λu j=>u=.tuple #[]/\cO F aln w j:=by
  have H:=(Sep.dA hp).bW.bW.aJ.bW;obtain⟨K,e,rfl,hck,_⟩:=Sep.bX H.bB At0;obtain⟨W,A,rfl,hcw,_⟩:=Sep.bX H.aR At0;obtain⟨C,d,rfl,hcc,_⟩:=Sep.bX H At0;have T:(ng L).length=L.length:=zae _;refine dn Tryz.func20 ?_;refine Sr (bK H (cs:=[.slice W s.length A,.slice C (ng L).length d,I g]) rfl (h:=λn w2 R k1=>?_));refine V1 ?_;refine aM (λx:Nat×List bH=>[(1,.slice K cols.length e),(2,aC n),(4,I x.1)]) (λx j=>(x.1<=s.length/\s.length=x.2.length)/\Mw.Sep w F [blk n [.slice W s.length A,.slice C (ng L).length d,I g] 32,aY 43 2 dV (.slice C (ng L).length d) (ng L),Nb L,aY 41 3 aQ (.slice W s.length A) x.2,aY 50 7 aL (.slice K cols.length e) cols] j) (λx _=>s.length-x.1) (0,s) tR ⟨⟨zai _,rfl⟩,R⟩ (λx P w5 r=>?_);obtain⟨i,m⟩:=x;obtain⟨⟨hi,a⟩,E⟩:=r;dsimp only at hi a E;refine Lp ?_;refine Cz (λS=>?_) (λS=>?_)
  . have t:i<s.length:=oM
    refine V3 ?_;refine Vb (aQ ⟨3,0,[]⟩) ?_;refine Vv (ah.yA (l:=m) (enc:=aQ) a rfl rfl (dZ a E At3) oM) (rM (i:=i) (enc:=aQ) ⟨3,0,[]⟩ a E At3 oM rfl (h:=λwa V=>?_));refine V3 ?_;exact ak (i+1,m.set i ⟨3,0,[]⟩) tR ⟨⟨dO,by dsimp only;rw[zdb];exact a⟩,V⟩ dO
  refine V1 ?_;have D:=E.bB.bN;refine aM (λi:Nat=>[(1,.slice K cols.length e),(2,aC n),(5,I i)]) (λi j=>i<=L.length/\Mw.Sep w F [blk n [.slice W s.length A,.slice C (ng L).length d,I g] 32,aY 43 2 dV (.slice C (ng L).length d) (ng L),Nb (L.drop i),aY 50 7 aL (.slice K cols.length e) cols] j) (λi _=>L.length-i) 0 tR ⟨zai _,D⟩ (λi P wb r=>?_);obtain⟨hi,D⟩:=r;refine Lp ?_;refine Cz (λp=>?_) (λp=>?_)
  . have t:i<L.length:=oM
    obtain⟨b,M⟩:=aN t;have z:(ng L)[i]? =some (b.2.name,b.1):=by unfold ng;rw[zbw,M];rfl
    have N:=O b (zag M);rw[sQ M]at D;obtain⟨y,o⟩:=b;dsimp only at z N;have Q:Mw.Sep w F (aY 41 3 aQ y o.steps::Nb (L.drop (i+1))::blk n [.slice W s.length A,.slice C (ng L).length d,I g] 32::aY 43 2 dV (.slice C (ng L).length d) (ng L)::aY 50 7 aL (.slice K cols.length e) cols::[]) _:=D.aR.bW;obtain⟨Y,J,rfl,_,_⟩:=Sep.bX Q At0;refine V1 ?_;refine aM (λx:Nat×List bH=>[(1,.slice K cols.length e),(2,aC n),(5,I i),(6,I x.1)]) (λx j=>(x.1<=o.steps.length/\o.steps.length=x.2.length)/\Mw.Sep w F [aY 41 3 aQ (.slice Y o.steps.length J) x.2,Nb (L.drop (i+1)),blk n [.slice W s.length A,.slice C (ng L).length d,I g] 32,aY 43 2 dV (.slice C (ng L).length d) (ng L),aY 50 7 aL (.slice K cols.length e) cols] j) (λx _=>o.steps.length-x.1) (0,o.steps) tR ⟨⟨zai _,rfl⟩,Q⟩ (λx P wc r=>?_);obtain⟨k,m⟩:=x;obtain⟨⟨hk,a⟩,c⟩:=r;dsimp only at hk a c;refine Lp ?_;refine V4 ?_;refine Vv (ah.fT (l:=ng L) rfl rfl (eF c At3) oM) (Vv (ah.oO rfl (eF c At3) oM) ?_);refine Vv (ah.yh (i:=i) (f:=1) rfl (eF c At3) z rfl) (Cz (λq=>?_) (λq=>?_))
    . have hlk:k<o.steps.length:=oM
      refine V3 ?_;refine Vv (ah.fT (l:=ng L) rfl rfl (eF c At3) oM) (Vv (ah.oO rfl (eF c At3) oM) ?_);refine Vv (ah.yh (i:=i) (f:=1) rfl (eF c At3) z rfl) (Mv ?_);refine Vb (aQ ⟨2,5,[]⟩) ?_;refine Vv (ah.yA (l:=m) (enc:=aQ) a rfl rfl (dZ a c At0) oM) (rM (i:=k) (enc:=aQ) ⟨2,5,[]⟩ a c At0 oM rfl (h:=λwd X=>?_));refine V3 ?_;exact ak (k+1,m.set k ⟨2,5,[]⟩) tR ⟨⟨dO,by dsimp only;rw[zdb];exact a⟩,X⟩ dO
    have hke:=0;refine V3 ?_;exact ak (i+1) tR ⟨oM,c.bN.aR.aR⟩ oM
  refine V1 ?_;refine aM (λx:Nat×List bF=>[(1,.slice K cols.length e),(7,I x.1)]) (λx j=>(x.1<=cols.length/\cols.length=x.2.length)/\Mw.Sep w F [aY 50 7 aL (.slice K cols.length e) x.2] j) (λx _=>cols.length-x.1) (0,cols) tR ⟨⟨zai _,rfl⟩,D.bB.first⟩ (λx P we r=>?_);obtain⟨i,m⟩:=x;obtain⟨⟨hi,a⟩,G⟩:=r;dsimp only at hi a G;refine Lp ?_;refine Cz (λv=>?_) (λv=>?_)
  . have t:i<cols.length:=oM
    refine V2 ?_;refine Vb (aL ⟨99,[],⟨0,false⟩,⟨false,0,[]⟩⟩) ?_;refine Vv (ah.yA (l:=m) (enc:=aL) a rfl rfl (dZ a G At0) oM) (rM (i:=i) (enc:=aL) ⟨99,[],⟨0,false⟩,⟨false,0,[]⟩⟩ a G At0 oM rfl (h:=λwf Z=>?_));refine V3 ?_;exact ak (i+1,m.set i ⟨99,[],⟨0,false⟩,⟨false,0,[]⟩⟩) tR ⟨⟨dO,by dsimp only;rw[zdb];exact a⟩,Z⟩ dO
  refine V0 ?_;exact⟨rfl,(Sep.look G At0 λ_ _ _=>trivial).first.bf⟩
def NC: ∀{l:List mF} {i:Nat} {a:List bF},(rz cols g i l a).1.length<=a.length+2*l.length+1
 | [],i,a=>by
  rw[rz];dsimp only
  split
  .rw[zad];simp
  simp
 | o::l,i,a=>by
  rw[rz,zat]
  split
  .simp
  split
  .split
   .simp
   refine zcl NC ?_;rw[zad]
   split
   .rw[zad];simp;omega
   simp;omega
  refine zcl NC ?_;rw[zad];simp;omega
def QT {cols:List bF} {p:aU}:(bD cols p).1.length<=2*p.cols.length+1:=by
 unfold bD
 split
 .simp
 split
 .simp
 split
 .simp
 exact zcl NC sM
variable {w0:Wd} {S:NP} {rs:List HP} {b:Nat} {T J:List aH} {L:List fH}
def Xn (H:Mw.Sep w0 S (dB v L::j4 b cols p T::rs) w) (C:L.map (·.2)=l) (A: ∀t,aS S w0 t->gK t) (f:(bD cols p).2=0) (r:mQ p) (E:lG p T) (i: ∀x∈l,dQ x) (j:l.length<=100):
    aX prog 24 [aC b,v] w λu s=>∃x:Value×List fH,u=.tuple #[x.1,I (dN cols p T l).2]/\x.2.map (·.2)=(dN cols p T l).1/\Mw.Sep w0 S (dB x.1 x.2::j4 b cols p (eU cols p T l)::dB v L::rs) s:=by
  obtain⟨y,m,e,d,a⟩:=Sep.BA H At0;have c: ∀h,aS y w h->aS S w0 h:=λh k=>Mw.aS.into H.au e k;refine aX.mono (Jz m ⟨aW L,λh k=>?_⟩ (λh k=>A h (c h k)) f r.1 r.2 E i j) λu s D=>?_
  . obtain⟨M,F,K,_,_,k,z⟩:=d h k
    exact⟨nH k,C▸vD z⟩
  obtain⟨x,rfl,G,g,F,n,o⟩:=D;exact⟨x,rfl,G,(a _ F _ g n o).aJ.bW⟩
def TS (H:Mw.Sep w0 S (j4 b cols p T::rs) w) (k:(bD cols p).2=0) (j:lG p T):
    aX prog 28 [aC b] w λu f=>∃x:Value×List fH,u=x.1/\x.2.map (·.2)=(dP p.group p.cols.length T).1/\Mw.Sep w0 S (dB x.1 x.2::j4 b cols p T::rs) f:=by
  obtain⟨n,c,g,h⟩:=H.bG At0;refine aX.mono (Nn c k j) λu f i=>?_;obtain⟨x,rfl,m,a,F,d,e⟩:=i;exact⟨x,rfl,m,(h _ F _ a d e).bW⟩
def aa8 (H:Mw.Sep w0 S (j4 b cols p T::rs) w) (j:p.cols.length<=100):
    aX prog 21 [aC b] w λu d=>∃x:Value,u=x/\Mw.Sep w0 S (aY 50 7 aL x (bD cols p).1::j4 b cols p T::rs) d:=by
  obtain⟨z,m,i,o,h⟩:=Ew H;obtain⟨t,g,rfl⟩:=Ey h.aJ;refine aX.mono (afL (h.obj At0) (.inr ⟨rfl,t,_,rfl⟩) (Sep.dh h At2).1.2.2 (by have:=QT (cols:=cols) (p:=p);omega)) λu d f=>?_;obtain⟨x,rfl,_,k,F,a,c⟩:=f;exact⟨_,rfl,(uL ((h.new k a (λb e=>(c b e).resolve_left id)).bB.bB.bB)).aJ⟩
def adq (H:Mw.Sep w0 S (dB v L::om b cols p J::rs) w) (t:L.map (·.2)=l) (e:(bD cols p).2=0) (o:mQ p) (a:(bL cols p J).2=0) (A:lG p (bL cols p J).1) (c: ∀x∈J,dQ x) (g: ∀x∈l,dQ x) (i: ∀x∈l,x.row.length<=1000) (y:J.length+l.length<=100):
    aX prog 25 [aC b,v] w λu r=>∃x:Value×List fH,u=.tuple #[x.1,I (dN cols p (bL cols p J).1 l).2]/\x.2.map (·.2)=(dN cols p (bL cols p J).1 l).1/\Mw.Sep w0 S (dB x.1 x.2::om b cols p (if(dN cols p (bL cols p J).1 l).2=0 then J++l else J)::dB v L::rs) r:=by
  obtain⟨E,j,s,d,h⟩:=Sep.BA H At0;refine aX.mono (QK j (λD k=>?_) e o.1 o.2 a A c g i y) λu r z=>?_
  . obtain⟨G,k⟩:=d D k
    exact t▸Jc k
  obtain⟨x,rfl,C,f,F,m,n⟩:=z;exact⟨x,rfl,C,(h _ F _ f m n).aJ.bW⟩
def agr (H:Mw.Sep w0 S (om b cols p J::rs) w) (d:(bD cols p).2=0) (j:mQ p) (k:(bL cols p J).2=0) (r:lG p (bL cols p J).1) (a: ∀x∈J,dQ x) (c:J.length<=100):
    aX prog 29 [aC b] w λu m=>∃x:Value×List fH,u=x.1/\x.2.map (·.2)=(dP p.group p.cols.length (bL cols p J).1).1/\Mw.Sep w0 S (dB x.1 x.2::om b cols p J::rs) m:=by
  obtain⟨t,f,n,h⟩:=H.bG At0;refine aX.mono (QJ f d j.1 j.2 k r a c) λu m o=>?_;obtain⟨x,rfl,s,e,F,g,i⟩:=o;exact⟨x,rfl,s,(h _ F _ e g i).bW⟩
def ND (H:Mw.Sep w0 S (dB v L::rs) w) (f:L.map (·.2)=l) (g:l.length<=100000) (h: ∀x∈l,x.row.length<=100000):
    aX prog 26 [v] w λu i=>u=.tuple #[]/\Mw.Sep w0 S rs i:=by
  obtain⟨o,c,j,k⟩:=H.bG At0;refine aX.mono (afK c (by rw[<-f,zae]at g;exact g) λb m=>h _ (f▸zav.2 ⟨b,m,rfl⟩)) λu i n=>?_;obtain⟨rfl,a,F,d,e⟩:=n;exact⟨rfl,(k _ F _ a d e).bN⟩
def ajR (H:Mw.Sep w0 S rs w) (C:JF cols p) (m:aP w vc aL 7 cols) (n:fK w vp p) (i:gK w):
    aX prog 18 [vc,vp] w λu k=>∃pv:Value,u=.tuple #[pv,I (bD cols p).2]/\aS noB w k/\((bD cols p).2≠0->pv=.pointer none/\Mw.Sep w0 S rs k)/\((bD cols p).2=0->∃b:Nat,pv=aC b/\Mw.Sep w0 S (j4 b cols p []::rs) k):=
  aX.mono (agn C m n i) λu k o=>by
    obtain⟨pv,rfl,e,f,g⟩:=o;refine⟨pv,rfl,e,λh=>⟨f h,H.aK e⟩,λh=>?_⟩;obtain⟨b,rfl,a,F,c,d⟩:=g h;exact⟨b,rfl,H.new a c (λb j=>(d b j).resolve_left id)⟩
def aij (H:Mw.Sep w0 S rs w) (C:JF cols p) (j:aP w vc aL 7 cols) (m:fK w vp p):
    aX prog 19 [vc,vp] w λu k=>∃pv:Value,u=.tuple #[pv,I (bD cols p).2]/\aS noB w k/\((bD cols p).2≠0->pv=.pointer none/\Mw.Sep w0 S rs k)/\((bD cols p).2=0->∃b:Nat,pv=aC b/\Mw.Sep w0 S (om b cols p []::rs) k):=
  aX.mono (agp C j m) λu k n=>by
    obtain⟨pv,rfl,e,f,g⟩:=n;refine⟨pv,rfl,e,λh=>⟨f h,H.aK e⟩,λh=>?_⟩;obtain⟨b,rfl,a,F,c,d⟩:=g h;exact⟨b,rfl,H.new a c (λb i=>(d b i).resolve_left id)⟩
def uG {L:List zk} (H:Mw.Sep w0 S (Nc vw vc s L::rs) w): ∃A a B b,vw=.slice A s.length a/\vc=.slice B (ng L).length b:=by
 obtain⟨A,a,h,_,_⟩:=Sep.bX H.bW At0;obtain⟨B,b,k,_,_⟩:=Sep.bX H.bW.aJ.bW At0;exact⟨A,a,B,b,h,k⟩
def Zv {put:HP->List HP} {L:List zk} (H:Mw.Sep w0 S rs w) (k:At rs (Nc vw vc p.wh L) put) (h:L.map (·.2)=p.cols):fK w (agg [vw,vc,I p.group]) p:=by
 obtain⟨F,a,_,_⟩:=H.bG k;have:=WY p.group a;rw[h]at this;exact this
def ags {v:Value} {L:List zk} (H:Mw.Sep w0 S (Nc vw vc s L::aY 50 7 aL v cols::rs) w) (n:s.length<=1000) (m:L.length<=1000) (e: ∀b∈L,b.2.steps.length<=1000) (j:cols.length<=1000):
    aX prog 20 [agg [vw,vc,I g],v] w λu f=>u=.tuple #[]/\Mw.Sep w0 S rs f:=by
  obtain⟨r,a,i,h⟩:=H.aZ.bG At0;refine aX.mono (agq a n m e j) λu f o=>?_;obtain⟨rfl,k,F,c,d⟩:=o;exact⟨rfl,(h _ F _ k c d).bN⟩
def AZ (ok:Prop) [Decidable ok] (pv:Value) (q:Nat->HP):HP:=if ok then exH λb:Nat=>dx (jH (pv=aC b)) (q b)else jH (pv=.pointer none)
section
variable {w w0:Wd} {S:NP} {rs:List HP} {ok:Prop} [Decidable ok] {pv:Value} {q:Nat->HP} {b:Nat}
def F6 (H:Mw.Sep w0 S (AZ ok pv q::rs) w) (h:ok): ∃b:Nat,pv=aC b/\Mw.Sep w0 S (q b::rs) w:=by
 unfold AZ at H;rw[zac h]at H;obtain⟨b,k⟩:=Sep.ex0 H;obtain⟨e,a⟩:=Sep.ru k.bW;exact⟨b,e,a⟩
def Zw (H:Mw.Sep w0 S (AZ ok pv q::rs) w) (h: ¬ok):pv=.pointer none/\Mw.Sep w0 S rs w:=by
 unfold AZ at H;rw[zab h]at H;exact Sep.ru H
def ads (H:Mw.Sep w0 S (AZ ok pv q::rs) w): ∃a,pv=.pointer a/\a.isNone=decide (¬ok):=by
 by_cases h:ok
 .obtain⟨b,rfl,_⟩:=F6 H h
  exact⟨_,rfl,(zam (λk=>k h)).symm⟩
 obtain⟨rfl,_⟩:=Zw H h;exact⟨_,rfl,(zau h).symm⟩
def zx (H:Mw.Sep w0 S (q b::rs) w) (h:ok):Mw.Sep w0 S (AZ ok (aC b) q::rs) w:=by
 unfold AZ;rw[zac h];exact Sep.tZ (p:=λk:Nat=>dx (jH (aC b=aC k)) (q k)) b ((Sep.jY (φ:=aC b=aC b) rfl H).aZ)
def KD (H:Mw.Sep w0 S rs w) (h: ¬ok):Mw.Sep w0 S (AZ ok (.pointer none) q::rs) w:=by
 unfold AZ;rw[zab h];exact Sep.jY (φ:=Value.pointer none=.pointer none) rfl H
end
def alo (C:JF cols p) (e:aP w vc aL 7 cols) (f:fK w vp p) (d:gK w):
    aX prog 18 [vc,vp] w λu k=>∃pv:Value,u=.tuple #[pv,I (bD cols p).2]/\True/\cO noB (AZ ((bD cols p).2=0) pv λb=>j4 b cols p []) w k:=
  aX.mono (ajR (Sep.aI w) C e f d) λu k g=>by
    obtain⟨pv,rfl,i,a,c⟩:=g;refine⟨pv,rfl,trivial,?_⟩
    by_cases h:(bD cols p).2=0
    . obtain⟨b,rfl,H⟩:=c h
      exact(zx H h).first.bf
    obtain⟨rfl,H⟩:=a h;exact(KD H h).first.bf
def alp (C:JF cols p) (d:aP w vc aL 7 cols) (e:fK w vp p):
    aX prog 19 [vc,vp] w λu k=>∃pv:Value,u=.tuple #[pv,I (bD cols p).2]/\True/\cO noB (AZ ((bD cols p).2=0) pv λb=>om b cols p []) w k:=
  aX.mono (aij (Sep.aI w) C d e) λu k f=>by
    obtain⟨pv,rfl,g,a,c⟩:=f;refine⟨pv,rfl,trivial,?_⟩
    by_cases h:(bD cols p).2=0
    . obtain⟨b,rfl,H⟩:=c h
      exact(zx H h).first.bf
    obtain⟨rfl,H⟩:=a h;exact(KD H h).first.bf
def qR (w:Wd) (v:Value) (q:List (List aH)):Prop:=∃r:LV,aP w v zu 1 r/\r.length=q.length/\∀(i:Nat) x l,r[i]? =some x->q[i]? =some l->dM w x l
def qR.aK {w w':Wd} {v:Value} {q:List (List aH)} (h:qR w v q) (k:aS noB w w'):qR w' v q:=by
 obtain⟨r,a,c,d⟩:=h;exact⟨r,a.aK k,c,λi x l f e=>(d i x l f e).aK k⟩
structure nK (k:Nat) (l:List aH):Prop where
 few:l.length<=k
 fit: ∀x∈l,cB x.w
 row: ∀x∈l,x.row.length<=100
def JG (k:Nat):nK k []:=⟨zai _,λ_ h=>zas h zal,λ_ h=>zas h zal⟩
def nK.mono {k m:Nat} (h:nK k l) (a:k<=m):nK m l:=⟨zcl h.few a,h.fit,h.row⟩
def nK.app {k m:Nat} {a b:List aH} (h:nK k a) (c:nK m b):nK (k+m) (a++b):=
 ⟨by rw[zad];have:=h.few;have:=c.few;omega,λx d=>(zbh.1 d).elim (h.fit x) (c.fit x),λx d=>(zbh.1 d).elim (h.row x) (c.row x)⟩
def agt: ∀x∈(dJ l).1,∃y∈l,y.row=x.row:=λx h=>by
 unfold dJ at h
 split at h
 .exact r9.1 (GI.1 h).1
 exact zas h zal
def aik (h:isZ l): ∀x∈l,cB x.w:=λx k=>zbe (p:= -9223372036854775808<=x.w/\x.w<=9223372036854775807) (h.2.2 x k)
def EB {k:Nat} (h:l.length<=k) (a: ∀x∈l,x.row.length<=100):nK k (dJ l).1:=
 ⟨zcl (FT l) h,aik sj,λx c=>by
  obtain⟨y,d,e⟩:=agt x c;rw[<-e];exact a y d⟩
def EC {n:Nat} (i:n<=16) (f:g<=n) (c: ∀x∈T,x.row.length=n):nK T.length (dP g n T).1:=by
 by_cases h:(dP g n T).2=0
 .by_cases k:g<0
  .unfold dP
   rw[zac k];exact EB (zbk _) λx a=>by rw[c x a];omega
  rw[jJ k h];obtain⟨d,e⟩:=(jQ k).1 h;refine⟨zcl Nt (by rw[zae];exact zbk _),λx a=>?_,λx a=>?_⟩
  .rw[Nr x a];exact⟨dC,dC⟩
  rw[Ns (lT d) x a];omega
 rw[VA h];exact JG _
def Zx {n:Nat} {m:List aH} (i:n<=16) (e:g<=n) (d: ∀x∈T,x.row.length=n) (f: ∀x∈m,x.row.length=n):nK (2*T.length+m.length) (iL g n T m).1:=by
 unfold iL
 split
 .exact JG _
 have a:nK (T++m).length (dP g n (T++m)).1:=EC i e λx h=>(zbh.1 h).elim (d x) (f x);have c:nK T.length (dP g n T).1:=EC i e d;have k:=a.few;have j:=c.few;rw[zad]at k
 split
 .exact EB oM λx h=>by rw[f x h];omega
 refine EB ?_ λx h=>?_
 .rw[zad]
  unfold yu;rw[zae];omega
 rcases zbh.1 h with h | h
 .exact a.row x h
 unfold yu at h;obtain⟨y,o,rfl⟩:=zav.1 h;exact c.row y o
def ED (k:(bD cols p).2=0) (a:lG p T):nK T.length (dP p.group p.cols.length T).1:=by
 have h:=nE k;exact EC h.2.1 h.2.2.2 λx c=>(a.items x c).2.1
def BO (k:(bD cols p).2=0) (d:mQ p) (e:lG p T) (a: ∀x∈l,dQ x):nK (2*T.length+l.length) (dN cols p T l).1:=by
 have h:=nE k;unfold dN
 split
 .exact JG _
 refine(Zx h.2.1 h.2.2.2 (λx c=>(e.items x c).2.1) λx c=>(y5 d.2 a x c).2.1).mono ?_;have:=mP (cols:=cols) (p:=p) l;omega
end Go.Proofs.Mw
