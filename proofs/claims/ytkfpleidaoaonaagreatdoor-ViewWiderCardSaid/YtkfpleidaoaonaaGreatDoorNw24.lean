/-
 What is parsed is small,and its steps fit. No program stands here.
-/
import Derived.Test.YtkfpleidaoaonaaGreatDoorNw1
import Derived.Test.YtkfpleidaoaonaaGreatDoorNw23
import Derived.Test.YtkfpleidaoaonaaGreatDoorNw3
import Derived.Test.YtkfpleidaoaonaaGreatDoorNw12
import Derived.Test.YtkfpleidaoaonaaGreatDoorNw14
import Derived.Test.YtkfpleidaoaonaaGreatDoorNw22
import Derived.Test.YtkfpleidaoaonaaGreatDoorNw21
import Derived.Test.YtkfpleidaoaonaaGreatDoorNw18
set_option linter.unusedVariables false
set_option linter.unusedSimpArgs false
namespace Go.Proofs.YtkfpleidaoaonaaGreatDoor
open Go Go.Mw Go.Lib
set_option maxRecDepth 4000
end Go.Proofs.YtkfpleidaoaonaaGreatDoor
namespace Go.Mw
open Go.RowKit
end Go.Mw
namespace Go.Proofs.YtkfpleidaoaonaaGreatDoor
open Go Go.Mw Go.Lib
set_option maxRecDepth 4000
section
variable {w:Wd}
end
end Go.Proofs.YtkfpleidaoaonaaGreatDoor
namespace Go.Proofs.YtkfpleidaoaonaaGreatDoor
open Go Go.Mw Go.Lib
set_option maxRecDepth 4000
attribute [local irreducible] FW FL FG FGn fZ gG cO gW Qfn Gives
section
variable {w:Wd}
end
section
variable {w:Wd} {F:NP}
end
def ni (v:Value) (r:List (Value×Int)) (l:List aH):HP:=gy λw=>aQ w v aG 2 r/\fK w r l
section
variable {w w0:Wd} {S:NP} {rs:List HP} {put:HP->List HP}
theorem XL {v:Value} {L:List Held} (H:Mw.Sep w0 S rs w) (hat:At rs (eU v L) put):Mw.Sep w0 S (put (ni v (eu L) (L.map (·.2)))) w:=Sep.look H hat λ_ _ h=>by
 obtain⟨F1,F2,_,_,h1,h2⟩:=h;exact⟨nL h1,zw h2⟩
end
section
variable {w:Wd} {F:NP}
end
section
variable {w:Wd} {F:NP}
theorem ag9 {b:Nat} {cols:List bF} {p:aW} {T l want:List aH} {e:Int} {v vw:Value} (hp:(qh b cols p T).ok F w) (hl:yx w F v l) (hwt: ∀w1,Kept F w w1->eT w1 vw want) (hT: ∀w1,Kept F w w1->gQ w1) (d9:(dB cols p).2=0) (Jk:bI p.wh) (Dr: ∀o∈p.cols,bI o.steps) (hv:nR p T) (Jw: ∀x∈l,eG x) (hln:l.length<=100):
    aY Tryz.prog 44 [av b,I e,v,vw] w λu w'=>u=.bool (decide ((fP cols p T l).1=want)&&decide ((fP cols p T l).2=e))/\Turn F (qh b cols p (fH cols p T l)) w w':=by
  have H:=Sep.bW hp;refine y8 Tryz.func44 rfl rfl rfl rfl ?_;refine Zb3 ?_;obtain⟨F0,vC,gH,aI⟩:=H.focus At0;have EA: ∀w1,Kept F0 _ w1->Kept F w w1:=λw1 h1=>Mw.Kept.into H.kept gH h1;obtain⟨r,hr⟩:=hl;refine aK (OH vC ⟨r,λw1 h1=>hr w1 (EA w1 h1)⟩ (λw1 h1=>hT w1 (EA w1 h1)) d9 Jk Dr hv Jw hln) rfl rfl (λv' _ hv=>?_);obtain⟨x,rfl,hx,lY,F1,lG,k⟩:=hv;have S:=(aI _ F1 _ lY lG k).bR;refine Zb7 ?_;have hxI:=jw S At0;rw[hx]at hxI;refine aD S (GL hxI (hwt _ S.kept)) (h:=λ_ S _=>?_);refine Mv ?_;refine aF (t:=20) rfl (λk=>?_) (λk=>?_)
  . refine Zb5 ?_
    exact⟨by simp_all[eP],S.dA.turn⟩
  refine Zb2 ?_;exact⟨by simp_all[eP],S.dA.turn⟩
end
set_option maxRecDepth 20000
def txA:L8:=[119,104,101,114,101,32,35,49,32,48,32,60,32,110,111,116,10,111,117,116,32,115,32,35,50,10,103,114,111,117,112,32,110,111,110,101,10]
def plA:aW:=⟨[⟨1,1,[]⟩,⟨2,0,[]⟩,⟨12,0,[]⟩,⟨15,0,[]⟩],[⟨[115],[⟨1,2,[]⟩]⟩], -1⟩
def txG:L8:=[119,104,101,114,101,32,110,111,110,101,10,111,117,116,32,115,32,35,50,10,111,117,116,32,110,32,35,49,10,103,114,111,117,112,32,49,10]
def plG:aW:=⟨[],[⟨[115],[⟨1,2,[]⟩]⟩,⟨[110],[⟨1,1,[]⟩]⟩],1⟩
def txO:L8:=[119,104,101,114,101,32,110,111,110,101,10,111,117,116,32,120,32,35,49,32,57,50,50,51,51,55,50,48,51,54,56,53,52,55,55,53,56,48,55,32,43,10,103,114,111,117,112,32,110,111,110,101,10]
def plO:aW:=⟨[],[⟨[120],[⟨1,1,[]⟩,⟨2,9223372036854775807,[]⟩,⟨7,0,[]⟩]⟩], -1⟩
def FC (l:List aZ):Bool:=l.all λx=>decide (-9223372036854775808<=x.n/\x.n<=9223372036854775807)
theorem Ch {l:List aZ} (h:FC l=true):bI l:=λx hx=>by
 have h1:=zbf.1 h x hx;exact zba (p:= -9223372036854775808<=x.n/\x.n<=9223372036854775807) h1
def textOf (p:aW) (t:L8):Bool:=BG p&&FC p.wh&&p.cols.all (λo=>FC o.steps)&&decide (rV (jY p)=t)&&decide (t.length<=1000)
theorem zK {p:aW} {t:L8} (h:textOf p t=true):pI t=(p,0,0)/\(bI p.wh/\∀o∈p.cols,bI o.steps)/\t.length<=1000:=by
 unfold textOf at h;simp only[zbr,decide_eq_true_eq]at h;obtain⟨⟨⟨⟨h1,h2⟩,h3⟩,h4⟩,h5⟩:=h;have f2:=Ch h2;have f3: ∀o∈p.cols,bI o.steps:=λo ho=>Ch (zbf.1 h3 o ho);subst h4;exact⟨aaF h1 f2 f3 oM,⟨f2,f3⟩,h5⟩
theorem aij:textOf plA txA=true:=by decide+kernel
theorem aeD:textOf plG txG=true:=by decide+kernel
theorem aik:textOf plO txO=true:=by decide+kernel
def aV:L8:=[97]
def bV:L8:=[98]
def iV (id:Int) (s:L8) (w:Int):aH:=⟨Y7 id s,w⟩
def iy (s:L8):ay:=⟨false,0,s⟩
def tO (n:Int):ay:=⟨false,n,[]⟩
def G5 (w:Int):aH:=⟨[iy aV],w⟩
def Jt (s:ay) (count n w:Int):aH:=⟨[s,tO count,tO n],w⟩
def lA1:List aH:=[iV 1 aV 1,iV (-2) bV 1,iV 3 aV 2]
def lA2:List aH:=[iV 1 aV (-1),iV (-2) bV (-1)]
def lG1:List aH:=[iV 5 aV 1,iV 2 aV 1,iV 1 [] 1]
def lG2:List aH:=[iV 2 aV (-1),iV 9 aV 1]
def lG3:List aH:=[⟨[tO 1,iy aV,iy aV],1⟩]
def lD:List aH:=[⟨[tO 2147483648],1⟩]
def lO1:List aH:=[iV 1 aV 1]
def lO2:List aH:=[iV 0 aV 1]
def tA1:List aH:=fH nZ plA [] lA1
def tA2:List aH:=fH nZ plA tA1 lA2
def tG1:List aH:=fH nZ plG [] lG1
def tG2:List aH:=fH nZ plG tG1 lG2
def Ej:ay:=⟨true,0,[]⟩
theorem C8:(dB nZ plA).2=0/\fP nZ plA [] lA1=([G5 3],0)/\fP nZ plA tA1 lA2=([G5 (-1)],0)/\gB plA.group plA.cols.length tA2=([G5 2],0):=by decide+kernel
theorem nS:(dB nZ plG).2=0/\fP nZ plG [] lG1=([Jt Ej 1 1 1,Jt (iy aV) 2 7 1],0)/\fP nZ plG tG1 lG2=([Jt (iy aV) 2 7 (-1),Jt (iy aV) 2 14 1],0)/\fP nZ plG tG2 lG3=([],100)/\fP nZ plG tG2 []=([],0)/\iq nZ plG lD=([],100):=by decide+kernel
theorem FD:(dB nZ plO).2=0/\fP nZ plO [] lO1=([],50)/\fP nZ plO [] lO2=([⟨[tO 9223372036854775807],1⟩],0):=by decide+kernel
end Go.Proofs.YtkfpleidaoaonaaGreatDoor
namespace Go.Mw
open Go.RowKit
theorem ajm {P:Program} {f:FuncId} {fn:Func} {c:Code} {w:Wd} {R:Value->Wd->Prop} {n:Nat} {l:List ResultVar} {a0 a1 a2 a3:Value} (hf:P.funcs[f]? =some fn) (hb:fn.body=some c) (hn:fn.ntmps=n) (hl:fn.results=l.toArray) (hk:Nat.ble 4 n=true)
    (h:FW P none n c (abM P l R) (upd (upd (upd (upd und 3 a3) 2 a2) 1 a1) 0 a0) w):aY P f [a0,a1,a2,a3] w R:=uM hf hb hn hl hk h
end Go.Mw
namespace Go.Proofs.YtkfpleidaoaonaaGreatDoor
open Go Go.Mw Go.Lib
set_option maxRecDepth 4000
attribute [local irreducible] FW FL FG FGn fZ gG cO gW Qfn Gives
section
variable {w w0:Wd} {S:NP} {rs:List HP}
theorem mo {v1:Value} {n1:Int} {r1:List ay} {b:Nat} (H:Mw.Sep w0 S (blk b ([(v1,n1)].flatMap aG) 82::bJ 52 3 ah v1 r1::rs) w):Mw.Sep w0 S (ni (.slice (some ⟨b,0,none⟩) 1 1) [(v1,n1)] [⟨r1,n1⟩]::rs) w:=by
 have h1:=qp (x:=v1) (o:=⟨r1,n1⟩) ((ET H).aU);have h2:=gL (l:=[(v1,n1)]) (enc:=aG) (k:=2) (Sep.o7 (n:=1) (s:=2) h1.aL At0 rfl dC) At0;exact Sep.qg h2 λw a b=>⟨a,b⟩
theorem jC {v1 v2:Value} {n1 n2:Int} {r1 r2:List ay} {b:Nat} (H:Mw.Sep w0 S (blk b ([(v1,n1),(v2,n2)].flatMap aG) 82::bJ 52 3 ah v2 r2::bJ 52 3 ah v1 r1::rs) w):Mw.Sep w0 S (ni (.slice (some ⟨b,0,none⟩) 2 2) [(v1,n1),(v2,n2)] [⟨r1,n1⟩,⟨r2,n2⟩]::rs) w:=by
 have h1:=qp (x:=v1) (o:=⟨r1,n1⟩) ((ET H).bE);have h1:=qp (x:=v2) (o:=⟨r2,n2⟩) (h1.aU);have h2:=gL (l:=[(v1,n1),(v2,n2)]) (enc:=aG) (k:=2) (Sep.o7 (n:=2) (s:=2) h1.aL At0 rfl dC) At0;exact Sep.qg h2 λw a b=>⟨a,b⟩
theorem xk {v1 v2 v3:Value} {n1 n2 n3:Int} {r1 r2 r3:List ay} {b:Nat} (H:Mw.Sep w0 S (blk b ([(v1,n1),(v2,n2),(v3,n3)].flatMap aG) 82::bJ 52 3 ah v3 r3::bJ 52 3 ah v2 r2::bJ 52 3 ah v1 r1::rs) w):Mw.Sep w0 S (ni (.slice (some ⟨b,0,none⟩) 3 3) [(v1,n1),(v2,n2),(v3,n3)] [⟨r1,n1⟩,⟨r2,n2⟩,⟨r3,n3⟩]::rs) w:=by
 have h1:=qp (x:=v1) (o:=⟨r1,n1⟩) ((ET H).fC);have h1:=qp (x:=v2) (o:=⟨r2,n2⟩) (h1.bE);have h1:=qp (x:=v3) (o:=⟨r3,n3⟩) (h1.aU);have h2:=gL (l:=[(v1,n1),(v2,n2),(v3,n3)]) (enc:=aG) (k:=2) (Sep.o7 (n:=3) (s:=2) h1.aL At0 rfl dC) At0;exact Sep.qg h2 λw a b=>⟨a,b⟩
theorem Bf (H:Mw.Sep w0 S rs w):Mw.Sep w0 S (ni (.slice none 0 0) [] []::rs) w:=Sep.xU H λw=>⟨AA _ _ _,fK.nil⟩
theorem uL {b:Nat} {cols:List bF} {p:aW} {T li lw:List aH} {ri rw':List (Value×Int)} {e:Int} {vi vw:Value} (H:Mw.Sep w0 S (star (ni vw rw' lw) (ni vi ri li)::qh b cols p T::rs) w) (hT: ∀wx,Kept S w0 wx->gQ wx) (d9:(dB cols p).2=0) (Jk:bI p.wh) (Dr: ∀o∈p.cols,bI o.steps) (hv:nR p T) (Jw: ∀x∈li,eG x) (hln:li.length<=100):
    aY Tryz.prog 44 [av b,I e,vi,vw] w λu w'=>u=.bool (decide ((fP cols p T li).1=lw)&&decide ((fP cols p T li).2=e))/\Mw.Sep w0 S (qh b cols p (fH cols p T li)::rs) w':=by
  obtain⟨F0,vC,gH,hQ0,aI⟩:=Sep.KT H At0;have EA: ∀k,Kept F0 w k->Kept S w0 k:=λk h1=>Mw.Kept.into H.kept gH h1;refine aY.mono (ag9 (want:=lw) vC ⟨ri,λk h1=>?_⟩ (λk h1=>?_) (λk h1=>hT k (EA k h1)) d9 Jk Dr hv Jw hln) λu w' hu=>?_
  . obtain⟨Fq,F1,F2,_,_,_,h2⟩:=hQ0 k h1
    exact qE h2
  . obtain⟨Fq,F1,F2,_,_,h2,_⟩:=hQ0 k h1
    exact⟨rw',(qE h2).1,(qE h2).2⟩
  obtain⟨rfl,lY,F1,lG,k⟩:=hu;exact⟨rfl,(aI _ F1 _ lY lG k).dA⟩
end
section
variable {w:Wd}
theorem FE (wt:Int):aY Tryz.prog 41 [I wt] w λu w'=>∃x:Value,u=agg (aG (x,wt))/\True/\Turn noB (bJ 52 3 ah x [iy aV]) w w':=by
 have H:=Sep.aJ w;refine tQ Tryz.func41 rfl rfl rfl rfl ?_;refine Sr (aO H (h:=λb2 _ k _=>?_));refine Nx (Vb (ah (iy aV)) ?_);refine Bs k ([iy aV].flatMap ah) (λbs _ k _=>?_);refine Mv ?_;refine Vb (aG (.slice (some ⟨bs,0,none⟩) 1 1,wt)) ?_;refine ak k (h:=λ_ k=>?_);refine Qn (dX (aN (h:=?_)));exact⟨_,jh k,_,rfl,trivial,(Sep.o7 (n:=1) (s:=3) k At0 rfl dC).first.turn⟩
theorem mq (c:ay) (n1 n2 wt:Int):aY Tryz.prog 42 [agg (ah c),I n1,I n2,I wt] w λu w'=>∃x:Value,u=agg (aG (x,wt))/\True/\Turn noB (bJ 52 3 ah x [c,tO n1,tO n2]) w w':=by
 have H:=Sep.aJ w;refine ajm Tryz.func42 rfl rfl rfl rfl ?_;refine Sr (cB H (cs:=ah c) rfl (h:=λb4 _ k _=>?_));refine aO k (h:=λb8 _ k _=>?_);refine Nx (iB k (cs:=ah c) (h:=?_));refine Mv ?_;refine Vb (ah (tO n1)) ?_;refine Mv ?_;refine Vb (ah (tO n2)) ?_;refine Bs k ([c,tO n1,tO n2].flatMap ah) (λbs _ k _=>?_);refine Mv ?_;refine Vb (aG (.slice (some ⟨bs,0,none⟩) 3 3,wt)) ?_;refine ak k (h:=λ_ k=>?_);refine Qn (dX (aN (h:=?_)));exact⟨_,jh k,_,rfl,trivial,(Sep.o7 (n:=3) (s:=3) k At0 rfl dC).first.turn⟩
theorem FH {p:aW} {t:L8} (ht:textOf p t=true) (d9:(dB nZ p).2=0) (Ai:p.wh.length<=100) (ZJ: ∀o∈p.cols,o.steps.length<=100) (hT:gQ w):aY Tryz.prog 43 [str t] w λu w'=>∃b:Nat,u=av b/\True/\Turn noB (qh b nZ p []) w w':=by
 obtain⟨hp,⟨Jk,Dr⟩,Ml⟩:=zK ht;have ZI:=qK d9;have H:=Sep.aJ w;refine dI Tryz.func43 rfl rfl rfl rfl ?_;refine Zb2 ?_;refine dn H (Lh t (.inl oM) oM (hT.keep H.kept)) (h:=λx k _ S _=>?_);rw[hp]at S ⊢;have hPI:ji k x p:=Sep.sees S At0;obtain⟨vw,vc,rfl,hvw,q,hvc,_⟩:=hPI;obtain⟨W,cw,rfl,_,_⟩:=hvw;obtain⟨A,ca,rfl,_,_⟩:=hvc;refine Zb4 ?_;refine aO S (h:=λb3 _ S _=>?_);refine ak S (us:=[.slice W p.wh.length cw,.slice A q.length ca,I p.group]) (h:=λ_ _=>?_);refine Zb2 ?_;refine Ds (λS _ k=>?_);refine pq S 1 k (h:=?_);refine fV S 0 [(1,false)] k QO (h:=λtv k _ a _=>⟨sU,?_⟩);have apk:ji k (agg [.slice W p.wh.length cw,.slice A q.length ca,I p.group]) p:=Sep.sees a At2;refine rD S 2 [] rfl kR (UF (mY a At0) dC apk Jk Dr oM oM (λo ho=>by have:=ZJ o ho;omega) (hT.keep a.kept)) rfl kR kR (λv' _ hv=>?_);obtain⟨pv,rfl,bZ,_,hb⟩:=hv;obtain⟨b,rfl,lY,F1,lG,k⟩:=hb d9;have S:=a.new lY lG (λb hb=>(k b hb).resolve_left id);refine⟨sT,?_⟩;refine Zb7 ?_;exact⟨b,rfl,trivial,S.first.turn⟩
end
end Go.Proofs.YtkfpleidaoaonaaGreatDoor
namespace Go.Proofs.YtkfpleidaoaonaaGreatDoor
open Go Go.Mw Go.Lib
set_option maxRecDepth 4000
attribute [local irreducible] FW FL FG FGn fZ gG cO gW Qfn Gives
def ail (x:aH):Bool:=decide (-9223372036854775808<=x.w/\x.w<=9223372036854775807)&&x.row.all λc=>decide (-9223372036854775808<=c.n/\c.n<=9223372036854775807)
theorem nk {l:List aH} (h:l.all ail=true): ∀x∈l,eG x:=λx hx=>by
 have h1:=zbf.1 h x hx;unfold ail at h1;rw[zbr]at h1;refine⟨zba (p:= -9223372036854775808<=x.w/\x.w<=9223372036854775807) h1.1,λc hc=>?_⟩;exact zba (p:= -9223372036854775808<=c.n/\c.n<=9223372036854775807) (zbf.1 h1.2 c hc)
theorem qN {x:List aH×Int} {a:List aH} {e:Int} (h:x=(a,e)):(decide (x.1=a)&&decide (x.2=e))=true:=by subst h;simp
theorem fA1: ∀x∈lA1,eG x:=nk dC
theorem fA2: ∀x∈lA2,eG x:=nk dC
theorem fG1: ∀x∈lG1,eG x:=nk dC
theorem fG2: ∀x∈lG2,eG x:=nk dC
theorem fG3: ∀x∈lG3,eG x:=nk dC
theorem fD: ∀x∈lD,eG x:=nk dC
theorem fO1: ∀x∈lO1,eG x:=nk dC
theorem fO2: ∀x∈lO2,eG x:=nk dC
theorem OP:tA1.length<=10/\tA2.length<=10/\tG1.length<=10/\tG2.length<=10:=by decide+kernel
theorem abr:bI plA.wh/\∀o∈plA.cols,bI o.steps:=(zK aij).2.1
theorem FI:bI plG.wh/\∀o∈plG.cols,bI o.steps:=(zK aeD).2.1
theorem aha:bI plO.wh/\∀o∈plO.cols,bI o.steps:=(zK aik).2.1
theorem aeE:nR plA tA1:=nN (holds_nil plA) abr.2 fA1 dC
theorem ajn:nR plA tA2:=nN aeE abr.2 fA2 (by have:=OP.1;have h:lA2.length=2:=rfl;omega)
theorem aeF:nR plG tG1:=nN (holds_nil plG) FI.2 fG1 dC
theorem aeG:nR plG tG2:=nN aeF FI.2 fG2 (by have:=OP.2.2.1;have h:lG2.length=2:=rfl;omega)
theorem aeH:fH nZ plG tG2 lG3=tG2:=by unfold fH;rw[nS.2.2.2.1,zab dC]
theorem aeI:fH nZ plO [] lO1=[]:=by unfold fH;rw[FD.2.1,zab dC]
section
variable {w:Wd}
set_option maxHeartbeats 2000000 in
theorem FJ (hT:gQ w):Rk Tryz.prog 18 [] w (.bool true):=by
 have H:=Sep.aJ w;have YH: ∀wx,Kept noB w wx->gQ wx:=λwx h=>hT.keep h;refine YL Tryz.func18 rfl rfl rfl ?_;refine Zb3 ?_;refine dn H (FH aij C8.1 dC dC (hT.keep H.kept)) (h:=λbA _ _ k _=>?_);refine Zb2 ?_;refine dn k (oC 1 1 aV) (h:=λx1 _ _ k _=>?_);refine dn k (oC (-2) 1 bV) (h:=λx2 _ _ k _=>?_);refine dn k (oC 3 2 aV) (h:=λx3 _ _ k _=>?_);refine Bs k ([(x1,1),(x2,1),(x3,2)].flatMap aG) (λbs _ k _=>?_);have k:=xk k;refine Mv ?_;refine dP (fs:=[]) (cs:=[]) (vals:=[I 3]) rfl (FE 3) rfl rfl (λv' _ hv=>?_);obtain⟨y1,rfl,_,lY,F1,lG,S⟩:=hv;have a:=k.new lY lG (λb hb=>(S b hb).resolve_left id);refine Bs a ([(y1,3)].flatMap aG) (λbs2 _ a _=>?_);have a:=mo a;refine aK (uL (li:=lA1) (lw:=[G5 3]) (e:=0) a.bD YH C8.1 abr.1 abr.2 (holds_nil plA) fA1 dC) rfl rfl (λv' _ hv=>?_);obtain⟨rfl,a⟩:=hv;rw[qN C8.2.1];refine Vv (Gives.not rfl) (Mv ?_);refine gu (t:=24) rfl (λk=>?_) (λk=>?_)
 .exact Bool.noConfusion k
 refine Zb1 ?_;refine dn a (oC 1 (-1) aV) (h:=λx4 _ _ k _=>?_);refine On (dn k (oC (-2) (-1) bV) (h:=λx5 _ _ k _=>?_));refine On (Bs k ([(x4, -1),(x5, -1)].flatMap aG) (λbs3 _ k _=>?_));have k:=jC k;refine Zb1 ?_;refine dP (fs:=[]) (cs:=[]) (vals:=[I (-1)]) rfl (FE (-1)) rfl rfl (λv' _ hv=>?_);obtain⟨y2,rfl,_,lY,F1,lG,S⟩:=hv;have a:=k.new lY lG (λb hb=>(S b hb).resolve_left id);refine On (Bs a ([(y2, -1)].flatMap aG) (λbs4 _ a _=>?_));have a:=mo a;refine On (aK (uL (T:=tA1) (li:=lA2) (lw:=[G5 (-1)]) (e:=0) a.bD YH C8.1 abr.1 abr.2 aeE fA2 dC) rfl rfl (λv' _ hv=>?_));obtain⟨rfl,a⟩:=hv;rw[qN C8.2.2.1];refine On (Vv (Gives.not rfl) (Zb2 ?_));refine gu (t:=35) rfl (λk=>?_) (λk=>?_)
 .exact Bool.noConfusion k
 refine Zb1 ?_;obtain⟨F0,vC,gH,aI⟩:=a.focus At0;refine aK (UE (T:=tA2) vC C8.1 ajn) rfl rfl (λv' _ hv=>?_);obtain⟨xr,rfl,hxr,lY,F1,lG,S⟩:=hv;have k:=(aI _ F1 _ lY lG S).bR;rw[C8.2.2.2]at hxr;refine Zb1 ?_;refine dP (fs:=[]) (cs:=[]) (vals:=[I 2]) rfl (FE 2) rfl rfl (λv' _ hv=>?_);obtain⟨y3,rfl,_,lY,F1,lG,S⟩:=hv;have a:=k.new lY lG (λb hb=>(S b hb).resolve_left id);refine On (Bs a ([(y3,2)].flatMap aG) (λbs5 _ a _=>?_));have a:=mo a;refine On ?_;have hxI:=jw a At1;rw[hxr]at hxI;refine aD a (GL (m:=[G5 2]) hxI ⟨_,(Sep.sees a At0).1,(Sep.sees a At0).2⟩) (h:=λ_ a _=>?_);rw[zbj (show(([G5 2],(0:Int)):List aH×Int).1=[G5 2]from rfl)];refine On (Vv (Gives.not rfl) (Pf ?_));refine Qn (Cd rfl (λk=>?_) (λk=>?_))
 .exact Bool.noConfusion k
 refine Zb0 ?_;refine dn a (FH aeD nS.1 dC dC (hT.keep a.kept)) (h:=λbG _ _ k _=>?_);refine Zb1 ?_;refine Vb (ah Ej) ?_;refine Vb (ah (iy aV)) ?_;have a:=k.first;refine aO a (h:=λb5 _ a _=>?_);refine aO a (h:=λb6 _ a _=>?_);refine ak a (h:=λ_ a=>?_);refine ak a (h:=λ_ _=>?_);refine Qn (fB (λx:Nat×Nat=>[(4,av x.1),(6,av x.2)]) (λx w'=>Mw.Sep w noB [qh x.1 nZ plG tG2,blk x.2 (ah (iy aV)) 52] w') ?_ ?_)
 .refine Zb0 ?_
  refine Ds (λa _ k=>?_);refine Zo (List.replicate 12 true++List.replicate 17 false) [(0,true)] (λx:(Nat×List (Value×Int))×Nat×List (Value×Int)=>[(2,.func (.func 42) #[] #[]),(4,av bG),(5,av b5),(6,av b6),(47,av bG),(51,.slice (some ⟨x.1.1,0,none⟩) 3 3),(58,.slice (some ⟨x.2.1,0,none⟩) 2 2)]) (λx w'=>Mw.Sep w noB [star (ni (.slice (some ⟨x.2.1,0,none⟩) 2 2) x.2.2 [Jt Ej 1 1 1,Jt (iy aV) 2 7 1]) (ni (.slice (some ⟨x.1.1,0,none⟩) 3 3) x.1.2 lG1),qh bG nZ plG [],blk b6 (ah (iy aV)) 52,blk b5 (ah Ej) 52] w') ?_ ?_
  .rintro⟨⟨bs,r1⟩,bq,r2⟩ τ c c
   dsimp only at c ⊢;refine Zo (List.replicate 26 true++[false,false,false]) [(15,true)] (λx:(Nat×List (Value×Int))×Nat×List (Value×Int)=>[(4,av bG),(6,av b6),(61,.bool false),(62,av bG),(65,.slice (some ⟨x.1.1,0,none⟩) 2 2),(72,.slice (some ⟨x.2.1,0,none⟩) 2 2)]) (λx w'=>Mw.Sep w noB [star (ni (.slice (some ⟨x.2.1,0,none⟩) 2 2) x.2.2 [Jt (iy aV) 2 7 (-1),Jt (iy aV) 2 14 1]) (ni (.slice (some ⟨x.1.1,0,none⟩) 2 2) x.1.2 lG2),qh bG nZ plG tG1,blk b6 (ah (iy aV)) 52] w') ?_ ?_
   .rintro⟨⟨bs3,r3⟩,bq2,r4⟩ τ d d
    dsimp only at d ⊢;refine rD a 26 [] rfl kR (uL (T:=tG1) (li:=lG2) (lw:=[Jt (iy aV) 2 7 (-1),Jt (iy aV) 2 14 1]) (e:=0) d YH nS.1 FI.1 FI.2 aeF fG2 dC) rfl kR kR (λv' _ hv=>?_);obtain⟨rfl,d⟩:=hv;rw[qN nS.2.2.1];refine⟨sT,?_⟩;refine GS (Gn rfl (λ_=>Gives.not rfl) ?_);refine Za1 ?_;refine fF a kR ?_;refine bC (Cd rfl (λf=>?_) (λf=>?_))
    .exact Bool.noConfusion f
    refine Zb0 ?_;exact aA (bG,b6) tR (d.firsts (l:=[_,_]))
   intro K26;refine rD a 12 [] rfl kR (uL (li:=lG1) (lw:=[Jt Ej 1 1 1,Jt (iy aV) 2 7 1]) (e:=0) c YH nS.1 FI.1 FI.2 (holds_nil plG) fG1 dC) rfl kR kR (λv' _ hv=>?_);obtain⟨rfl,f⟩:=hv;rw[qN nS.2.1];refine⟨sT,?_⟩;refine GS (Gn rfl (λ_=>Gives.not rfl) ?_);refine Zb1 ?_;refine Lu (t:=61) rfl (λd=>?_) (λd=>?_)
   .exact Bool.noConfusion d
   refine Zb1 ?_;refine Gm a 19 ?_;refine Zb1 ?_;refine Gm a 22 ?_;refine Zb1 ?_;refine fV a 16 [(23,false),(22,true),(20,false),(19,true),(15,true)] f (oC 2 (-1) aV) (h:=λx4 _ _ d _=>⟨sU,?_⟩);refine fV a 17 [(23,false),(22,true),(20,false),(19,true),(15,true)] d (oC 9 1 aV) (h:=λx5 _ _ d _=>⟨sU,?_⟩);refine mI a (e1:=18) (e2:=21) kR ?_ ?_
   .refine fG a 18 [(23,false),(22,true),(20,false),(19,true),(15,true)] d (xs:=[.tmp 63,.tmp 64]) (out:=[(x4, -1),(x5,1)].flatMap aG) (dK.many rfl rfl (dK.many rfl rfl dK.nil)) rfl rfl rfl (h:=λbs3 _ f=>?_)
    (have f:=jC f)
    refine⟨sU,?_⟩;refine jH a 21 [(23,false),(22,true),(15,true)] (y:=.tmp 66) (fs:=[]) (cs:=[]) (vals:=[agg (ah (iy aV)),I 2,I 7,I (-1)]) rfl (mq (iy aV) 2 7 (-1)) (h:=λv' _ hv=>?_);obtain⟨y3,rfl,_,lY,F1,lG,S⟩:=hv;have c:=f.new lY lG (λb hb=>(S b hb).resolve_left id);refine⟨sU,?_⟩;refine jH a 24 _ (y:=.tmp 69) (fs:=[]) (cs:=[]) (vals:=[agg (ah (iy aV)),I 2,I 14,I 1]) rfl (mq (iy aV) 2 14 1) (h:=λv' _ hv=>?_);obtain⟨y4,rfl,_,lY,F1,lG,S⟩:=hv;have f:=c.new lY lG (λb hb=>(S b hb).resolve_left id);refine⟨sT,?_⟩;refine Gz a 25 _ f ([(y3, -1),(y4,1)].flatMap aG) (h:=λbq2 _ f=>?_)
    (have f:=jC f)
    refine⟨sT,?_⟩;exact K26 ((bs3,_),bq2,_) _ _ tR (f.bD.firsts (l:=[_,_,_])) rfl
   refine oP a 21 [(23,false),(22,true),(15,true)] (y:=.tmp 66) (fs:=[]) (cs:=[]) (vals:=[agg (ah (iy aV)),I 2,I 7,I (-1)]) rfl (mq (iy aV) 2 7 (-1)) (h:=λv' _ hv=>?_);obtain⟨y3,rfl,_,lY,F1,lG,S⟩:=hv;have f:=d.new lY lG (λb hb=>(S b hb).resolve_left id);refine⟨sU,?_⟩;refine mI a (e1:=18) (e2:=24) kR ?_ ?_
   .refine fG a 18 [(23,false),(22,true),(15,true)] f (xs:=[.tmp 63,.tmp 64]) (out:=[(x4, -1),(x5,1)].flatMap aG) (dK.many rfl rfl (dK.many rfl rfl dK.nil)) rfl rfl rfl (h:=λbs3 _ d=>?_)
    (have d:=jC d.bE.bE.aU)
    refine⟨sU,?_⟩;refine jH a 24 _ (y:=.tmp 69) (fs:=[]) (cs:=[]) (vals:=[agg (ah (iy aV)),I 2,I 14,I 1]) rfl (mq (iy aV) 2 14 1) (h:=λv' _ hv=>?_);obtain⟨y4,rfl,_,lY,F1,lG,S⟩:=hv;have c:=d.new lY lG (λb hb=>(S b hb).resolve_left id);refine⟨sT,?_⟩;refine Gz a 25 _ c ([(y3, -1),(y4,1)].flatMap aG) (h:=λbq2 _ c=>?_)
    (have c:=jC c.bE.aU.aU)
    refine⟨sT,?_⟩;exact K26 ((bs3,_),bq2,_) _ _ tR (c.bD.firsts (l:=[_,_,_])) rfl
   refine oP a 24 _ (y:=.tmp 69) (fs:=[]) (cs:=[]) (vals:=[agg (ah (iy aV)),I 2,I 14,I 1]) rfl (mq (iy aV) 2 14 1) (h:=λv' _ hv=>?_);obtain⟨y4,rfl,_,lY,F1,lG,S⟩:=hv;have c:=f.new lY lG (λb hb=>(S b hb).resolve_left id);refine⟨sT,?_⟩;refine mI a (e1:=18) (e2:=25) kR ?_ ?_
   .refine fG a 18 _ c (xs:=[.tmp 63,.tmp 64]) (out:=[(x4, -1),(x5,1)].flatMap aG) (dK.many rfl rfl (dK.many rfl rfl dK.nil)) rfl rfl rfl (h:=λbs3 _ f=>?_)
    (have f:=jC f.fC.fC.aU)
    refine⟨sT,?_⟩;refine Gz a 25 _ f ([(y3, -1),(y4,1)].flatMap aG) (h:=λbq2 _ f=>?_)
    (have f:=jC f.bE.bE.aU)
    refine⟨sT,?_⟩;exact K26 ((bs3,_),bq2,_) _ _ tR (f.bD.firsts (l:=[_,_,_])) rfl
   refine fG a 25 _ c (xs:=[.tmp 68,.tmp 71]) (out:=[(y3, -1),(y4,1)].flatMap aG) (dK.many rfl rfl (dK.many rfl rfl dK.nil)) rfl rfl rfl (h:=λbq2 _ f=>?_)
   (have f:=jC f)
   refine⟨sT,?_⟩;refine Gz a 18 _ f ([(x4, -1),(x5,1)].flatMap aG) (h:=λbs3 _ f=>?_)
   (have f:=jC f.bE.bE.aU)
   refine⟨sT,?_⟩;exact K26 ((bs3,_),bq2,_) _ _ tR (f.aL.bD.firsts (l:=[_,_,_])) rfl
  intro K12;refine Gm a 0 ?_;refine Gm a 5 ?_;refine Zb1 ?_;refine Gm a 8 ?_;refine Zb1 ?_;refine fV a 1 [(9,false),(8,true),(6,false),(5,true),(0,true)] k (oC 5 1 aV) (h:=λx1 _ _ f _=>⟨sU,?_⟩);refine fV a 2 [(9,false),(8,true),(6,false),(5,true),(0,true)] f (oC 2 1 aV) (h:=λx2 _ _ f _=>⟨sU,?_⟩);refine fV a 3 [(9,false),(8,true),(6,false),(5,true),(0,true)] f (oC 1 1 []) (h:=λx3 _ _ f _=>⟨sU,?_⟩);refine mI a (e1:=4) (e2:=7) kR ?_ ?_
  .refine fG a 4 [(9,false),(8,true),(6,false),(5,true),(0,true)] f (xs:=[.tmp 48,.tmp 49,.tmp 50]) (out:=[(x1,1),(x2,1),(x3,1)].flatMap aG) (dK.many rfl rfl (dK.many rfl rfl (dK.many rfl rfl dK.nil))) rfl rfl rfl (h:=λbs _ k=>?_)
   (have k:=xk k)
   refine⟨sU,?_⟩;refine jH a 7 [(9,false),(8,true),(0,true)] (y:=.tmp 52) (fs:=[]) (cs:=[]) (vals:=[agg (ah Ej),I 1,I 1,I 1]) rfl (mq Ej 1 1 1) (h:=λv' _ hv=>?_);obtain⟨y1,rfl,_,lY,F1,lG,S⟩:=hv;have c:=k.new lY lG (λb hb=>(S b hb).resolve_left id);refine⟨sU,?_⟩;refine jH a 10 _ (y:=.tmp 55) (fs:=[]) (cs:=[]) (vals:=[agg (ah (iy aV)),I 2,I 7,I 1]) rfl (mq (iy aV) 2 7 1) (h:=λv' _ hv=>?_);obtain⟨y2,rfl,_,lY,F1,lG,S⟩:=hv;have k:=c.new lY lG (λb hb=>(S b hb).resolve_left id);refine⟨sT,?_⟩;refine Gz a 11 _ k ([(y1,1),(y2,1)].flatMap aG) (h:=λbq _ k=>?_)
   (have k:=jC k)
   refine⟨sT,?_⟩;exact K12 ((bs,_),bq,_) _ _ tR k.fC.aU.aU.bD rfl
  refine oP a 7 [(9,false),(8,true),(0,true)] (y:=.tmp 52) (fs:=[]) (cs:=[]) (vals:=[agg (ah Ej),I 1,I 1,I 1]) rfl (mq Ej 1 1 1) (h:=λv' _ hv=>?_);obtain⟨y1,rfl,_,lY,F1,lG,S⟩:=hv;have k:=f.new lY lG (λb hb=>(S b hb).resolve_left id);refine⟨sU,?_⟩;refine mI a (e1:=4) (e2:=10) kR ?_ ?_
  .refine fG a 4 [(9,false),(8,true),(0,true)] k (xs:=[.tmp 48,.tmp 49,.tmp 50]) (out:=[(x1,1),(x2,1),(x3,1)].flatMap aG) (dK.many rfl rfl (dK.many rfl rfl (dK.many rfl rfl dK.nil))) rfl rfl rfl (h:=λbs _ f=>?_)
   (have f:=xk f.fC.fC.fC.bE)
   refine⟨sU,?_⟩;refine jH a 10 _ (y:=.tmp 55) (fs:=[]) (cs:=[]) (vals:=[agg (ah (iy aV)),I 2,I 7,I 1]) rfl (mq (iy aV) 2 7 1) (h:=λv' _ hv=>?_);obtain⟨y2,rfl,_,lY,F1,lG,S⟩:=hv;have c:=f.new lY lG (λb hb=>(S b hb).resolve_left id);refine⟨sT,?_⟩;refine Gz a 11 _ c ([(y1,1),(y2,1)].flatMap aG) (h:=λbq _ c=>?_)
   (have c:=jC c.bE.aU.aU)
   refine⟨sT,?_⟩;exact K12 ((bs,_),bq,_) _ _ tR c.fC.aU.aU.bD rfl
  refine oP a 10 _ (y:=.tmp 55) (fs:=[]) (cs:=[]) (vals:=[agg (ah (iy aV)),I 2,I 7,I 1]) rfl (mq (iy aV) 2 7 1) (h:=λv' _ hv=>?_);obtain⟨y2,rfl,_,lY,F1,lG,S⟩:=hv;have c:=k.new lY lG (λb hb=>(S b hb).resolve_left id);refine⟨sT,?_⟩;refine mI a (e1:=4) (e2:=11) kR ?_ ?_
  .refine fG a 4 _ c (xs:=[.tmp 48,.tmp 49,.tmp 50]) (out:=[(x1,1),(x2,1),(x3,1)].flatMap aG) (dK.many rfl rfl (dK.many rfl rfl (dK.many rfl rfl dK.nil))) rfl rfl rfl (h:=λbs _ k=>?_)
   (have k:=xk k.jK.jK.jK.bE)
   refine⟨sT,?_⟩;refine Gz a 11 _ k ([(y1,1),(y2,1)].flatMap aG) (h:=λbq _ k=>?_)
   (have k:=jC k.bE.bE.aU)
   refine⟨sT,?_⟩;exact K12 ((bs,_),bq,_) _ _ tR k.fC.aU.aU.bD rfl
  refine fG a 11 _ c (xs:=[.tmp 54,.tmp 57]) (out:=[(y1,1),(y2,1)].flatMap aG) (dK.many rfl rfl (dK.many rfl rfl dK.nil)) rfl rfl rfl (h:=λbq _ k=>?_)
  (have k:=jC k)
  refine⟨sT,?_⟩;refine Gz a 4 _ k ([(x1,1),(x2,1),(x3,1)].flatMap aG) (h:=λbs _ k=>?_)
  (have k:=xk k.fC.fC.fC.bE)
  refine⟨sT,?_⟩;exact K12 ((bs,_),bq,_) _ _ tR k.fC.aL.aU.bD rfl
 rintro⟨bG,b6⟩ τ k k;dsimp only at k;simp only[cK,like,aS,bK];refine Sr ?_;obtain⟨hpg,_,Ml⟩:=zK aeD;refine dn k (Lh txG (.inl oM) oM (hT.keep k.kept)) (h:=λxp k _ a _=>?_);rw[hpg]at a ⊢;have hPI:ji k xp plG:=Sep.sees a At0;obtain⟨vw,vc,rfl,hvw,q,hvc,_⟩:=hPI;obtain⟨W,cw,rfl,_,_⟩:=hvw;obtain⟨A,ca,rfl,_,_⟩:=hvc;refine Zb4 ?_;refine aO a (h:=λb7 _ a _=>?_);refine ak a (us:=[.slice W plG.wh.length cw,.slice A q.length ca,I plG.group]) (h:=λ_ _=>?_);refine Za2 ?_;refine Qn (fB (λx:Nat×Nat×OA×Nat=>[(4,av x.1),(6,av x.2.1),(10,.slice x.2.2.1 0 x.2.2.2),(11,I 100)]) (λx w'=>Mw.Sep w noB [qh x.1 nZ plG tG2,blk x.2.1 (ah (iy aV)) 52] w') ?_ ?_)
 .refine Ds (λa _ k=>?_)
  refine pq a 1 k (h:=?_);refine Gb a 2 (ah (tO 2147483648)) ?_;refine mI a (e1:=0) (e2:=3) kR ?_ ?_
  .refine ng a 0 [(2,true),(1,false)] k QO (h:=λtv _ _ c _=>⟨sU,?_⟩)
   refine Gz a 3 [(1,false)] c ([tO 2147483648].flatMap ah) (h:=λbc c S=>?_);have S:Mw.Sep w noB (bJ 52 3 ah (.slice (some ⟨bc,0,none⟩) 1 1) [tO 2147483648]::_) c:=Sep.o7 (n:=1) (s:=3) S At0 rfl dC;refine⟨sU,?_⟩;refine Gb a 4 (aG (.slice (some ⟨bc,0,none⟩) 1 1,1)) ?_;refine Gz a 5 [(1,false)] S ([(Value.slice (some ⟨bc,0,none⟩) 1 1,(1:Int))].flatMap aG) (h:=λbi _ S=>?_)
   (have S:=mo S)
   refine⟨sU,?_⟩;have ZN:=FI
   first
   | refine fV a 6 _ S (oI (cols:=nZ) (p:=plG) (l:=lD) (mY S At1) dC (Sep.sees S At3) ⟨_,(Sep.sees S At0).1,(Sep.sees S At0).2⟩ ZN.1 ZN.2 dC dC dC fD dC (hT.keep S.kept)) (h:=λxd c RD f d=>⟨sT,?_⟩)
   | refine fV a 6 _ S (oI (cols:=nZ) (p:=plG) (l:=lD) (mY S At0) dC (Sep.sees S At3) ⟨_,(Sep.sees S At1).1,(Sep.sees S At1).2⟩ ZN.1 ZN.2 dC dC dC fD dC (hT.keep S.kept)) (h:=λxd c RD f d=>⟨sT,?_⟩)
   refine Zb5 ?_;obtain⟨xd,L⟩:=xd;dsimp only at RD f;rw[nS.2.2.2.2.2]at RD;obtain rfl :L=[]:=List.map_eq_nil_iff.1 RD;have Hd:=f.bR;obtain⟨XA,cX,hX,_,_⟩:=Sep.dQ Hd At0;subst hX;refine aA (bG,b6,XA,cX) ⟨rfl,rfl,rfl,?_,trivial⟩ (Sep.firsts (l:=[_,_]) Hd.zQ.zQ);exact zbb (λe:List aH×Int=>I e.2) nS.2.2.2.2.2
  refine fG a 3 [(1,false)] k (xs:=[.tmp 84]) (out:=[tO 2147483648].flatMap ah) (dK.many rfl rfl dK.nil) rfl rfl rfl (h:=λbc d f=>?_);have f:Mw.Sep w noB (bJ 52 3 ah (.slice (some ⟨bc,0,none⟩) 1 1) [tO 2147483648]::_) d:=Sep.o7 (n:=1) (s:=3) f At0 rfl dC;refine⟨sU,?_⟩;refine Gb a 4 (aG (.slice (some ⟨bc,0,none⟩) 1 1,1)) ?_;refine mI a (e1:=0) (e2:=5) kR ?_ ?_
  .refine ng a 0 [(4,true),(1,false)] f QO (h:=λtv _ _ d _=>⟨sU,?_⟩)
   refine Gz a 5 [(1,false)] d ([(Value.slice (some ⟨bc,0,none⟩) 1 1,(1:Int))].flatMap aG) (h:=λbi _ d=>?_)
   (have d:=mo d.aU.aL)
   refine⟨sU,?_⟩;have ZN:=FI
   first
   | refine fV a 6 _ d (oI (cols:=nZ) (p:=plG) (l:=lD) (mY d At1) dC (Sep.sees d At3) ⟨_,(Sep.sees d At0).1,(Sep.sees d At0).2⟩ ZN.1 ZN.2 dC dC dC fD dC (hT.keep d.kept)) (h:=λxd c RD S k=>⟨sT,?_⟩)
   | refine fV a 6 _ d (oI (cols:=nZ) (p:=plG) (l:=lD) (mY d At0) dC (Sep.sees d At3) ⟨_,(Sep.sees d At1).1,(Sep.sees d At1).2⟩ ZN.1 ZN.2 dC dC dC fD dC (hT.keep d.kept)) (h:=λxd c RD S k=>⟨sT,?_⟩)
   refine Zb5 ?_;obtain⟨xd,L⟩:=xd;dsimp only at RD S;rw[nS.2.2.2.2.2]at RD;obtain rfl :L=[]:=List.map_eq_nil_iff.1 RD;have Hd:=S.bR;obtain⟨XA,cX,hX,_,_⟩:=Sep.dQ Hd At0;subst hX;refine aA (bG,b6,XA,cX) ⟨rfl,rfl,rfl,?_,trivial⟩ (Sep.firsts (l:=[_,_]) Hd.zQ.zQ);exact zbb (λe:List aH×Int=>I e.2) nS.2.2.2.2.2
  refine fG a 5 [(1,false)] f (xs:=[.tmp 86]) (out:=[(Value.slice (some ⟨bc,0,none⟩) 1 1,(1:Int))].flatMap aG) (dK.many rfl rfl dK.nil) rfl rfl rfl (h:=λbi _ k=>?_)
  (have k:=mo k)
  refine⟨sU,?_⟩;refine fV a 0 [(1,false)] k QO (h:=λtv _ _ k _=>⟨sU,?_⟩);have ZN:=FI
  first
  | refine fV a 6 _ k (oI (cols:=nZ) (p:=plG) (l:=lD) (mY k At1) dC (Sep.sees k At3) ⟨_,(Sep.sees k At0).1,(Sep.sees k At0).2⟩ ZN.1 ZN.2 dC dC dC fD dC (hT.keep k.kept)) (h:=λxd S RD c d=>⟨sT,?_⟩)
  | refine fV a 6 _ k (oI (cols:=nZ) (p:=plG) (l:=lD) (mY k At0) dC (Sep.sees k At3) ⟨_,(Sep.sees k At1).1,(Sep.sees k At1).2⟩ ZN.1 ZN.2 dC dC dC fD dC (hT.keep k.kept)) (h:=λxd S RD c d=>⟨sT,?_⟩)
  refine Zb5 ?_;obtain⟨xd,L⟩:=xd;dsimp only at RD c;rw[nS.2.2.2.2.2]at RD;obtain rfl :L=[]:=List.map_eq_nil_iff.1 RD;have Hd:=c.bR;obtain⟨XA,cX,hX,_,_⟩:=Sep.dQ Hd At0;subst hX;refine aA (bG,b6,XA,cX) ⟨rfl,rfl,rfl,?_,trivial⟩ (Sep.firsts (l:=[_,_]) Hd.zQ.zQ);exact zbb (λe:List aH×Int=>I e.2) nS.2.2.2.2.2
 rintro⟨bG,b6,XA,cX⟩ τ d d;dsimp only at d;simp only[cK,like,aS];refine Zb1 ?_;refine Vb (ah (tO 1)) ?_;refine iB d (cs:=ah (iy aV)) (h:=?_);refine iB d (cs:=ah (iy aV)) (h:=?_);refine Bs d ([tO 1,iy aV,iy aV].flatMap ah) (λbc d c _=>?_);have c:Mw.Sep w noB (bJ 52 3 ah (.slice (some ⟨bc,0,none⟩) 3 3) [tO 1,iy aV,iy aV]::_) d:=Sep.o7 (n:=3) (s:=3) c At0 rfl dC;refine Vb (aG (.slice (some ⟨bc,0,none⟩) 3 3,1)) ?_;refine Bs c ([(Value.slice (some ⟨bc,0,none⟩) 3 3,(1:Int))].flatMap aG) (λbi _ c _=>?_);have c:=mo c;have c:=Bf c;refine aK (uL (T:=tG2) (li:=lG3) (lw:=[]) (e:=100) c.bD YH nS.1 FI.1 FI.2 aeG fG3 dC) rfl rfl (λv' _ hv=>?_);obtain⟨rfl,c⟩:=hv;rw[qN nS.2.2.2.1];rw[aeH]at c;refine Vv (Gives.not rfl) (Mv ?_);refine gu (t:=100) rfl (λd=>?_) (λd=>?_)
 .exact Bool.noConfusion d
 refine Zb1 ?_;have d:=Bf (Bf c);refine aK (uL (T:=tG2) (li:=[]) (lw:=[]) (e:=0) d.bD YH nS.1 FI.1 FI.2 aeG (λx hx=>zap hx zao) dC) rfl rfl (λv' _ hv=>?_);obtain⟨rfl,d⟩:=hv;rw[qN nS.2.2.2.2.1];refine On (Vv (Gives.not rfl) (Zb2 ?_));refine gu (t:=105) rfl (λc=>?_) (λc=>?_)
 .exact Bool.noConfusion c
 refine Zb5 ?_;refine aF (t:=110) rfl (λc=>?_) (λc=>?_)
 .exact zap (show((0:Nat):Int)=0 from rfl) c
 refine Za3 ?_;refine Qn (Cp rfl (λc=>?_) (λc=>?_))
 .exact zap (by first | exact trivial | rfl) c
 refine Zb0 ?_;refine dn d (FH aik FD.1 dC dC (hT.keep d.kept)) (h:=λbO _ _ c _=>?_);refine Zb2 ?_;refine dn c (oC 1 1 aV) (h:=λx1 _ _ c _=>?_);refine Bs c ([(x1,1)].flatMap aG) (λbi _ c _=>?_);have c:=mo c;have c:=Bf c;refine aK (uL (T:=[]) (li:=lO1) (lw:=[]) (e:=50) c.bD YH FD.1 aha.1 aha.2 (holds_nil plO) fO1 dC) rfl rfl (λv' _ hv=>?_);obtain⟨rfl,c⟩:=hv;rw[qN FD.2.1];rw[aeI]at c;refine Mv ?_;refine gu (t:=119) rfl (λd=>?_) (λd=>?_)
 .refine Zb1 ?_
  refine dn c (oC 0 1 aV) (h:=λx2 _ _ c _=>?_);refine On (Bs c ([(x2,1)].flatMap aG) (λbi2 _ c _=>?_));have c:=mo c;refine On (Vb (ah (tO 9223372036854775807)) ?_);refine On (Bs c ([tO 9223372036854775807].flatMap ah) (λbc c S _=>?_));have S:Mw.Sep w noB (bJ 52 3 ah (.slice (some ⟨bc,0,none⟩) 1 1) [tO 9223372036854775807]::_) c:=Sep.o7 (n:=1) (s:=3) S At0 rfl dC;refine On (Vb (aG (.slice (some ⟨bc,0,none⟩) 1 1,1)) ?_);refine On (Bs S ([(Value.slice (some ⟨bc,0,none⟩) 1 1,(1:Int))].flatMap aG) (λbi3 _ S _=>?_));have S:=mo S;refine On (aK (uL (T:=[]) (li:=lO2) (lw:=[⟨[tO 9223372036854775807],1⟩]) (e:=0) S.bD YH FD.1 aha.1 aha.2 (holds_nil plO) fO2 dC) rfl rfl (λv' _ hv=>?_));obtain⟨rfl,S⟩:=hv;rw[qN FD.2.2];refine Zb2 ?_;exact⟨rfl,S.kept⟩
 exact Bool.noConfusion d
end
theorem abt (l:List aH):(Cg l).length<=10:=by unfold Cg;rw[zaf,zaj];omega
theorem abu {l:List aH}: ∀x∈Cg l,x.row.length<=12:=λx hx=>by
 obtain⟨y,_,rfl⟩:=zat.1 hx;show((y.row.take 12).map lH).length<=12
 rw[zaf,zaj];omega
theorem abv {l:List aH} (h: ∀x∈l,eG x): ∀x∈Cg l,eG x:=λx hx=>by
 obtain⟨y,hy,rfl⟩:=zat.1 hx;obtain⟨h1,h2⟩:=h y (zcy hy);refine⟨h1,λc hc=>?_⟩;obtain⟨d,hd,rfl⟩:=zat.1 hc;exact h2 d (zcy hd)
theorem Li (l:List aZ):(iR l).length<=70:=by unfold iR;rw[zaf,zaj];omega
theorem Lj {l:List aZ} (h:bI l):bI (iR l):=λx hx=>by
 obtain⟨y,hy,rfl⟩:=zat.1 hx;exact h y (zcy hy)
theorem abw {p:aW} (h:tN p):tN (vZ p)/\(vZ p).cols.length<=18/\(vZ p).wh.length<=70/\∀o∈(vZ p).cols,o.steps.length<=70:=
 ⟨⟨Lj h.1,λo ho=>by
  obtain⟨y,hy,rfl⟩:=zat.1 ho;exact Lj (h.2 y (zcy hy))⟩,by show((p.cols.take 18).map yN).length<=18;rw[zaf,zaj];omega,Li _,λo ho=>by
  obtain⟨y,hy,rfl⟩:=zat.1 ho;exact Li _⟩
theorem Ll {w:Wd} {v:Value} {p:aW} (h:ji w v p): ∃A a B b,v=agg [.slice A p.wh.length a,.slice B p.cols.length b,I p.group]:=by
 obtain⟨vw,vc,rfl,⟨A,a,rfl,_⟩,r,⟨B,b,rfl,_⟩,hr⟩:=h;exact⟨A,a,B,b,by rw[hr.len]⟩
structure abx (cols:List bF) (p:aW):Prop where
 fit:tN p
 cs:cols.length<=12
 outs:p.cols.length<=18
 wh:p.wh.length<=70
 st: ∀o∈p.cols,o.steps.length<=70
theorem ahb {p:aW} (cols:List bF) (h:tN p):abx (cols.take 12) (vZ p):=by
 obtain⟨h1,h2,h3,h4⟩:=abw h;exact⟨h1,by rw[zaj];omega,h2,h3,h4⟩
section
variable {w:Wd} {cols:List bF} {p:aW} {l:List aH} {vc vp v:Value}
theorem zL (C:abx cols p) (hc:aQ w vc aX 7 cols) (hp:ji w vp p) (hl:eT w v l) (Jw: ∀x∈l,eG x) (hn:l.length<=100) (hT:gQ w):
    aY Tryz.prog 13 [vc,vp,v] w λu w'=>∃x:Value×List Held,u=.tuple #[x.1,I (iq cols p l).2]/\x.2.map (·.2)=(iq cols p l).1/\Turn noB (eU x.1 x.2) w w':=
  oI hc (by have:=C.cs;omega) hp hl C.fit.1 C.fit.2 (by have:=C.outs;omega) (by have:=C.wh;omega) (λo ho=>by have:=C.st o ho;omega) Jw hn hT
end
section
variable {w:Wd}
end
section
variable {w:Wd} {F:NP}
end
section
variable {w w0:Wd} {S:NP} {rs:List HP} {b:Nat} {cols:List bF} {p:aW} {T J l:List aH} {v vc vp:Value} {L:List Held}
end
section
variable {w w0:Wd} {S:NP} {rs:List HP} {ok:Prop} [Decidable ok] {pv:Value} {q:Nat->HP} {b:Nat}
end
section
variable {w:Wd} {cols:List bF} {p:aW} {vc vp:Value}
end
/-! Rows of rows of items,given. -/
def QZ (w:Wd) (v:Value) (q:List (List aH)):Prop:=∃r:LV,aQ w v K7 1 r/\r.length=q.length/\∀(i:Nat) x l,r[i]? =some x->q[i]? =some l->eT w x l
theorem QZ.keep {w w':Wd} {v:Value} {q:List (List aH)} (h:QZ w v q) (hk:Kept noB w w'):QZ w' v q:=by
 obtain⟨r,h1,h2,h3⟩:=h;exact⟨r,h1.keep hk,h2,λi x l hx hl=>(h3 i x l hx hl).keep hk⟩
structure nu (k:Nat) (l:List aH):Prop where
 few:l.length<=k
 fit: ∀x∈l,fits x.w
 row: ∀x∈l,x.row.length<=100
theorem FK (k:Nat):nu k []:=⟨zaq _,λ_ h=>zap h zao,λ_ h=>zap h zao⟩
theorem nu.mono {k m:Nat} {l:List aH} (h:nu k l) (hm:k<=m):nu m l:=⟨zcl h.few hm,h.fit,h.row⟩
theorem nu.app {k m:Nat} {a b:List aH} (h:nu k a) (h2:nu m b):nu (k+m) (a++b):=
 ⟨by rw[zad];have:=h.few;have:=h2.few;omega,λx hx=>(zbi.1 hx).elim (h.fit x) (h2.fit x),λx hx=>(zbi.1 hx).elim (h.row x) (h2.row x)⟩
theorem aeJ {l:List aH}: ∀x∈(cZ l).1,∃y∈l,y.row=x.row:=λx hx=>by
 unfold cZ at hx
 split at hx
 .exact vK.1 (ES.1 hx).1
 exact zap hx zao
theorem ahc {l:List aH} (h:isZ l): ∀x∈l,fits x.w:=λx hx=>zba (p:= -9223372036854775808<=x.w/\x.w<=9223372036854775807) (h.2.2 x hx)
theorem C9 {k:Nat} {l:List aH} (hl:l.length<=k) (hr: ∀x∈l,x.row.length<=100):nu k (cZ l).1:=
 ⟨zcl (DY l) hl,ahc vM,λx hx=>by
  obtain⟨y,hy,e⟩:=aeJ x hx;rw[<-e];exact hr y hy⟩
theorem Lm {g:Int} {n:Nat} {T:List aH} (hn:n<=16) (hg:g<=n) (hT: ∀x∈T,x.row.length=n):nu T.length (gB g n T).1:=by
 by_cases h:(gB g n T).2=0
 .by_cases hg0:g<0
  .unfold gB
   rw[zac hg0];exact C9 (zbk _) λx hx=>by rw[hT x hx];omega
  rw[uY hg0 h];obtain⟨hm,hf⟩:=(sS hg0).1 h;refine⟨zcl aeu (by rw[zaf];exact zbk _),λx hx=>?_,λx hx=>?_⟩
  .rw[aer x hx];exact⟨dC,dC⟩
  rw[aes (Gx hm) x hx];omega
 rw[adk h];exact FK _
theorem XM {g:Int} {n:Nat} {T m:List aH} (hn:n<=16) (hg:g<=n) (hT: ∀x∈T,x.row.length=n) (hm: ∀x∈m,x.row.length=n):nu (2*T.length+m.length) (nQ g n T m).1:=by
 unfold nQ
 split
 .exact FK _
 have h1:nu (T++m).length (gB g n (T++m)).1:=Lm hn hg λx hx=>(zbi.1 hx).elim (hT x) (hm x);have h2:nu T.length (gB g n T).1:=Lm hn hg hT;have h1f:=h1.few;have h2f:=h2.few;rw[zad]at h1f
 split
 .exact C9 oM λx hx=>by rw[hm x hx];omega
 refine C9 ?_ λx hx=>?_
 .rw[zad]
  unfold Ti;rw[zaf];omega
 rcases zbi.1 hx with hx | hx
 .exact h1.row x hx
 unfold Ti at hx;obtain⟨y,hy,rfl⟩:=zat.1 hx;exact h2.row y hy
section
variable {cols:List bF} {p:aW} {T l:List aH}
theorem UM (d9:(dB cols p).2=0) (hf:tN p) (hv:nR p T) (Jw: ∀x∈l,eG x):nu (2*T.length+l.length) (fP cols p T l).1:=by
 have ZI:=qK d9;unfold fP
 split
 .exact FK _
 refine(XM ZI.2.1 ZI.2.2.2 (λx hx=>(hv.items x hx).2.1) λx hx=>(A9 hf.2 Jw x hx).2.1).mono ?_;have:=sw (cols:=cols) (p:=p) l;omega
end
structure Given (cols:List bF) (p:aW) (J:List aH) (i:Nat):Prop where
 good:(dD cols p J).2=0
 few:J.length<=10*i
 fit: ∀x∈J,eG x
 hold:nR p (dD cols p J).1
section
variable {w:Wd}
end
def aeK (w:Wd) (v:Value):Prop:=∀w',Kept noB w w'->Rk Tryz.prog 51 [v] w' (.bool true)
theorem aeK.keep {w w':Wd} {v:Value} (h:aeK w v) (hk:Kept noB w w'):aeK w' v:=λw2 h2=>h w2 (hk.trans h2 λ_ hb=>hb.elim)
section
variable {w:Wd} {v:Value}
end
structure Zd (p:aW) (T:List aH) (k:Nat):Prop where
 hold:nR p T
 few:T.length<=k
theorem XO {cols:List bF} {p:aW} {T l:List aH}:(fH cols p T l).length<=T.length+l.length:=by
 unfold fH
 split
 .have:=sw (cols:=cols) (p:=p) l
  rw[zad];omega
 omega
theorem Zd.step {cols:List bF} {p:aW} {T l:List aH} {k n:Nat} (h:Zd p T k) (hf:tN p) (hl: ∀x∈l,eG x) (hn:l.length<=n) (hk:k+n<=100):Zd p (fH cols p T l) (k+n):=by
 have:=h.few;have:=XO (cols:=cols) (p:=p) (T:=T) (l:=l);exact⟨nN h.hold hf.2 hl oM,oM⟩
section
variable {w w0:Wd} {S:NP} {rs:List HP} {put:HP->List HP} {a b l:List aH} {v va vb:Value} {k m:Nat}
theorem ak1 (ha:eT w va a) (hb:eT w vb b) (sa:nu k a) (sb:nu m b) (hk:k<=500) (hm:m<=500) (za:isZ a) (zb:isZ b):
    aY Tryz.prog 30 [va,vb] w λu w'=>∃x:Value×List Held,u=.tuple #[x.1,I (adg a b).2]/\x.2.map (·.2)=(adg a b).1/\Turn noB (eU x.1 x.2) w w':=by
  have h1:=sa.few;have h2:=sb.few;rw[<-YZ za zb];exact NK ha hb oM oM sa.fit sb.fit (λx hx=>by have:=sa.row x hx;omega) (λx hx=>by have:=sb.row x hx;omega)
end
section
variable {w:Wd}
end
structure apA where
 i:Nat
 s:TB
 l2:List aH
 v1:Value
 v2:Value
 v3:Value
 r1:List (Value×Int)
 r2:List (Value×Int)
 L:List Held
structure OQ (cols:List bF) (p:aW) (i:Nat) (s:TB) (l2:List aH):Prop where
 good:goodRun cols p s
 perm:s.all.Perm l2
 len:s.all.length<=10*i
 fit: ∀y∈s.all,eG y
 held:Zd p s.T (10*i)
 outs:nu (130*i) s.outs
theorem OQ.step {cols:List bF} {p:aW} {i:Nat} {s:TB} {l2 l:List aH} (h:OQ cols p i s l2) (d9:(dB cols p).2=0) (hf:tN p) (hl: ∀x∈l,eG x) (hn:l.length<=10) (hi:i<6) (hg:(fP cols p s.T l).2=0):
    OQ cols p (i+1) ⟨fH cols p s.T l,s.all++l,s.outs++(fP cols p s.T l).1⟩ (l++l2):=by
  have h1:=adM (l:=l) h.good;unfold Qt at h1;rw[zac hg]at h1;have h2:=h.len;have h3:=h.held.few;refine⟨h1,(h.perm.append_right l).trans List.perm_append_comm,by dsimp only;rw[zad];omega,λy hy=>(zbi.1 hy).elim (h.fit y) (hl y),h.held.step hf hl hn oM,?_⟩;exact(h.outs.app (UM d9 hf h.held.hold hl)).mono oM
theorem OQ.same {cols:List bF} {p:aW} {i:Nat} {s:TB} {l2:List aH} (h:OQ cols p i s l2):OQ cols p (i+1) s l2:=
 ⟨h.good,h.perm,by have:=h.len;omega,h.fit,⟨h.held.hold,by have:=h.held.few;omega⟩,h.outs.mono oM⟩
section
variable {w w0:Wd} {S:NP} {rs:List HP} {put:HP->List HP} {v:Value} {L:List Held} {l:List aH}
end
section
variable {w:Wd}
end
theorem fK.tail {w:Wd} {x:Value×Int} {o:aH} {r:List (Value×Int)} {l:List aH} (h:fK w (x::r) (o::l)):x.2=o.w/\aQ w x.1 ah 3 o.row/\fK w r l:=by
 obtain⟨h1,h2⟩:=h;rw[zay,zay]at h1;injection h1 with e1 e2
 exact⟨e1,h2 0 x o rfl rfl,e2,λi y p hy hp=>h2 (i+1) y p hy hp⟩
theorem fK.cons {w:Wd} {v:Value} {o:aH} {r:List (Value×Int)} {l:List aH} (hx:aQ w v ah 3 o.row) (h:fK w r l):fK w ((v,o.w)::r) (o::l):=fK.app (.one hx) h
section
variable {w w0:Wd} {S:NP} {rs:List HP} {b:Nat} {cols:List bF} {p:aW} {T l:List aH} {v:Value} {r:List (Value×Int)} {X:Wd->Prop}
end
section
variable {w:Wd}
end
section
variable {w:Wd}
end
end Go.Proofs.YtkfpleidaoaonaaGreatDoor
