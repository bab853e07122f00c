/-
 The program's Check of a plan,walked.
-/
import Derived.Test.YtjcgliljofbopaaGreatDoorNv17
set_option linter.all false
set_option maxRecDepth 4000
namespace Go.Proofs.Mw
open Go.Lib Go.Proofs.Tryz
attribute [local irreducible] FW FL FG FGn jK jO fI lU Qfn Gives
def zK (g:Int) (i:Nat):Nat:=if 0<=g/\g<i then 1 else 0
def Qs {α:Type} {l:List α} {i:Nat} {o:α} (h:l[i]? =some o):l.drop i=o::l.drop (i+1):=by
 have aS:=fO h;rw[zbn aS];rw[zaa aS]at h;injection h with h
 rw[h]
variable {w:Wd}
variable {p:aU} {vc:Value}
theorem adv {cols:List bY} {vp:Value} (hc:aJ w vc aP 7 cols) (hp:gX w vp p) (Ai:aZ p.wh) (vM: ∀o∈p.cols,aZ o.steps) (hn:p.cols.length<=1000000) (hT:iB w):
    aR Tryz.prog 27 [vc,vp] w λv w'=>∃x,v=.tuple #[x,I (bX cols p).2]/\True/\Turn noB (aY 67 7 aP x (bX cols p).1) w w':=by
  have eD:=hp;obtain⟨vw,vq,rfl,hw,r,hr,eF⟩:=hp;obtain⟨A,m,rfl,⟨hm,om⟩,hA⟩:=hr;have zi:=eF.len;have H:=Sep.aF w;obtain⟨res,ak⟩: ∃res,res=bX cols p:=⟨_,rfl⟩;rw[<-ak];unfold bX at ak;obtain⟨C,n,rfl,⟨hwn,aoy⟩,hC⟩:=id hw;refine bQ Tryz.func27 ?_;refine Sr (bB H (cs:=[.slice C p.wh.length n,.slice A r.length m,I p.group]) rfl (h:=λb3 _ k _=>?_));refine Kz (WA (eD.keep k.kept) oM) (λ_ k _=>?_);refine Vv (Gives.not rfl) (Qn ?_);refine Cd rfl (λS=>?_) (λS=>?_)
  . rw[zac (by simpa using S)]at ak
    refine Zb2 ?_;exact⟨_,by rw[ak];rfl,trivial,by rw[ak];exact(Sep.iW k 67 7 aP).first.turn⟩
  rw[zab (by simpa using S)]at ak;have aoz:p.cols.length<=16:=(ru (by simpa using S)).1.2.1;refine Sk (dD (λ_:Unit=>[(0,vc),(3,ay b3)]) (λ_ w'=>res=Bg cols p.group 0 p.cols []/\Sep w noB [blk b3 [.slice C p.wh.length n,.slice A r.length m,I p.group] 26] w') ?_ ?_)
  . refine Cz (λS=>?_) (λS=>?_)
    . have iN:p.wh≠[]:=λe=>by rw[e]at S;exact zar S dC
      refine Kz (Mg (hc.keep k.kept) (hw.keep k.kept) Ai (hT.keep k.kept).utf) (λ_ _ _=>?_);refine Az (λb6 _ _ _=>?_);refine Tz (λ_ S=>?_);refine Cz (λa=>?_) (λa=>?_)
      . rw[zac ⟨iN,a⟩]at ak
        refine Zb3 ?_;exact⟨_,by rw[ak];rfl,trivial,by rw[ak];exact(Sep.iW S 67 7 aP).first.turn⟩
      rw[zab (λh=>a h.2)]at ak;refine Cz (λa=>?_) (λa=>?_)
      . rw[zac ⟨iN,a⟩]at ak
        refine Zb2 ?_;exact⟨_,by rw[ak];rfl,trivial,by rw[ak];exact(Sep.iW S 67 7 aP).first.turn⟩
      rw[zab (λh=>a h.2)]at ak;refine Zb0 ?_;exact au () tR ⟨ak,S.bH⟩
    have he:p.wh=[]:=zbg oM;rw[zab (λh=>h.1 he),zab (λh=>h.1 he)]at ak;refine Zb0 ?_;exact au () tR ⟨ak,k⟩
  rintro _ τ a ⟨hres2,a⟩;refine Lp ?_;refine Az (λb8 _ _ _=>?_);refine Nx (Vv (Gives.makeFunc (fs:=[]) (us:=[]) (cs:=[.tmp 8]) rfl rfl) (Zb1 ?_));refine Vb (aD iL) ?_;refine Az (λb10 _ _ _=>?_);refine Tz (λa S=>?_);refine Zb4 ?_
  have k:Mw.Sep w noB [Kg b8 [],blk b10 (aD iL) 65,blk b3 [.slice C p.wh.length n,.slice A r.length m,I p.group] 26] a:=by
    have h1:=(Sep.iW (S.aG) 67 7 aP).aG;exact Sep.uF (p:=λv=>star (blk b8 [v] 22) (aY 67 7 aP v [])) _ (Sep.aQ h1)
  refine aI (λx:Nat×List bY=>[(0,vc),(3,ay b3),(8,ay b8),(9,.func (.func 48) #[] #[ay b8]),(10,ay b10),(40,.slice A r.length m),(41,I r.length),(42,I x.1)]) (λx w'=>(x.1<=r.length/\x.2.length=x.1+zK p.group x.1/\Bg cols p.group x.1 (p.cols.drop x.1) x.2=res)/\Sep w noB [Kg b8 x.2,blk b10 (aD iL) 65,blk b3 [.slice C p.wh.length n,.slice A r.length m,I p.group] 26] w') (λx _=>r.length-x.1) (0,[]) tR ⟨⟨zak _,by dsimp only;unfold zK;rw[zab oM];rfl,hres2.symm⟩,k⟩ (λx τ _ hI=>?_);obtain⟨i,acc⟩:=x;obtain⟨⟨hi,U1,dJ⟩,k⟩:=hI;dsimp only at hi U1 dJ k;have hai:zK p.group i<=1:=by unfold zK;split<;>omega
  have aus:acc.length<=i+1:=oM;refine Lp ?_;refine Cz (λS=>?_) (λS=>?_)
  . have aS:i<p.cols.length:=oM
    obtain⟨vx,hx,Ci⟩:=eF.at aS;obtain⟨Ax,cx,rfl,_⟩:=id Ci;have rH:p.cols[i]? =some p.cols[i]:=zaa aS;obtain⟨o,ho⟩: ∃o,o=p.cols[i]:=⟨_,rfl⟩;rw[<-ho]at hx Ci rH;have Ls:=vM o (zag rH);rw[Qs rH,Bg]at dJ;unfold zK at U1;refine Az (λb12 _ _ _=>?_);refine Am ?_;refine Tz (λ_ S=>?_);refine Kz (Mg (hc.keep S.kept) (Ci.keep S.kept) Ls (hT.keep S.kept).utf) (λ_ _ _=>?_);refine Az (λb13 _ _ _=>?_);refine Tz (λ_ S=>?_);refine Cz (λa=>?_) (λa=>?_)
    . rw[zac a]at dJ
      refine Zb3 ?_;exact⟨_,by rw[<-dJ];rfl,trivial,by rw[<-dJ];exact(Sep.iW S 67 7 aP).first.turn⟩
    rw[zab a]at dJ;refine Sk (dD (λ_:Unit=>[(0,vc),(3,ay b3),(8,ay b8),(9,.func (.func 48) #[] #[ay b8]),(10,ay b10),(11,I i),(12,ay b12),(13,ay b13),(40,.slice A r.length m),(41,I r.length),(42,I i)]) (λ_ w'=>Sep w noB [blk b13 (aD (iJ cols o.steps).1) 65,blk b12 (dL (o.name,.slice Ax o.steps.length cx)) 49,Kg b8 (if(i:Int)=p.group then acc++[qp ((i:Int)+1) iK iL]else acc),blk b10 (aD iL) 65,blk b3 [.slice C p.wh.length n,.slice A r.length m,I p.group] 26] w') ?_ ?_)
    . refine Cz (λa=>?_) (λa=>?_)
      . have hig:(i:Int)=p.group:=a
        refine Zb2 ?_;obtain⟨F0,UN,gV,aK⟩:=S.focus At2;refine eP (vals:=[str iK,agg (aD iL)]) rfl (yH iK iL UN oM) rfl rfl (λv' _ hv=>?_);obtain⟨rfl,bZ,F1,hq,iA⟩:=hv;have b:=aK _ F1 _ bZ hq iA;rw[zab oM]at U1;have hid:((acc.length+1:Nat):Int)=(i:Int)+1:=oM;rw[hid]at b;refine Zb0 ?_;exact au () tR (by rw[zac hig];exact b)
      have hig: ¬(i:Int)=p.group:=a;refine Zb0 ?_;exact au () tR (by rw[zab hig];exact S)
    intro _ τ b b;refine Lp ?_;refine Sz (λa=>?_) (λa=>?_)
    . refine Cz (λS=>?_) (λS=>?_)
      . have U2:0<=p.group/\p.group<=i:=⟨oM,S⟩
        rw[zac U2]at dJ;refine Cz (λc=>?_) (λc=>?_)
        . rw[zac c]at dJ
          refine Zb2 ?_;exact⟨_,by rw[<-dJ];rfl,trivial,by rw[<-dJ];exact(Sep.iW b 67 7 aP).first.turn⟩
        rw[zab c]at dJ;refine Tz (λ_ c=>?_);refine Zb4 ?_;obtain⟨acc2,Yn⟩: ∃acc2,acc2=if(i:Int)=p.group then acc++[qp ((i:Int)+1) iK iL]else acc:=⟨_,rfl⟩
        rw[<-Yn]at c dJ
        have aqU:acc2.length=i+1:=by
          rw[Yn]
          split
          . rw[zab oM]at U1
            rw[zad,zae];omega
          rw[zac oM]at U1;omega
        have hid:((acc2.length+1:Nat):Int)=(i:Int)+2:=oM;obtain⟨F0,UN,gV,aK⟩:=c.focus At2;refine eP (vals:=[str o.name,agg (aD iL)]) rfl (yH o.name _ UN oM) rfl rfl (λv' _ hv=>?_);obtain⟨rfl,bZ,F1,hq,iA⟩:=hv;have c:=aK _ F1 _ bZ hq iA;rw[hid]at c;refine Zb2 ?_;exact aj (i+1,acc2++[qp ((i:Int)+2) o.name iL]) tR ⟨⟨dO,by dsimp only;rw[zad,zae];unfold zK;rw[zac oM];omega,dJ⟩,c.bH.bH⟩ dO
      have U2: ¬(0<=p.group/\p.group<=i):=λh=>S h.2;rw[zab U2]at dJ;refine Zb4 ?_;rw[zab (show ¬(i:Int)=p.group from λe=>U2 ⟨oM,oM⟩)]at b;rw[zab oM]at U1;have hid:((acc.length+1:Nat):Int)=(i:Int)+1:=oM;obtain⟨F0,UN,gV,aK⟩:=b.focus At2;refine eP (vals:=[str o.name,agg (aD (iJ cols o.steps).1)]) rfl (yH o.name _ UN oM) rfl rfl (λv' _ hv=>?_);obtain⟨rfl,bZ,F1,hq,iA⟩:=hv;have c:=aK _ F1 _ bZ hq iA;rw[hid]at c;refine Zb2 ?_;exact aj (i+1,acc++[qp ((i:Int)+1) o.name (iJ cols o.steps).1]) tR ⟨⟨dO,by dsimp only;rw[zad,zae];unfold zK;rw[zab oM];omega,dJ⟩,c.bH.bH⟩ dO
    have U2: ¬(0<=p.group/\p.group<=i):=λh=>a h.1;rw[zab U2]at dJ;refine Zb5 ?_;rw[zab (show ¬(i:Int)=p.group from λe=>U2 ⟨oM,oM⟩)]at b;rw[zab oM]at U1;have hid:((acc.length+1:Nat):Int)=(i:Int)+1:=oM;obtain⟨F0,UN,gV,aK⟩:=b.focus At2;refine eP (vals:=[str o.name,agg (aD (iJ cols o.steps).1)]) rfl (yH o.name _ UN oM) rfl rfl (λv' _ hv=>?_);obtain⟨rfl,bZ,F1,hq,iA⟩:=hv;have c:=aK _ F1 _ bZ hq iA;rw[hid]at c;refine Zb2 ?_;exact aj (i+1,acc++[qp ((i:Int)+1) o.name (iJ cols o.steps).1]) tR ⟨⟨dO,by dsimp only;rw[zad,zae];unfold zK;rw[zab oM];omega,dJ⟩,c.bH.bH⟩ dO
  have jF:i=r.length:=oM;rw[jF,zi,zef,Bg]at dJ;rw[jF,zi]at U1;unfold zK at U1;refine Cz (λc=>?_) (λc=>?_)
  . rw[zac oM]at dJ
    rw[zab oM]at U1;refine Zb2 ?_;have hid:((acc.length+1:Nat):Int)=p.group+1:=oM;obtain⟨F0,UN,gV,aK⟩:=k.focus At0;refine eP (vals:=[str iK,agg (aD iL)]) rfl (yH iK iL UN oM) rfl rfl (λv' _ hv=>?_);obtain⟨rfl,bZ,F1,hq,iA⟩:=hv;have c:=aK _ F1 _ bZ hq iA;rw[hid]at c;refine Nx ?_;have a:=c;unfold Kg at a;obtain⟨v8,a⟩:=a.ex0;have a:=a.bL;refine Ld a ?_;refine Zb2 ?_;exact⟨v8,by rw[<-dJ];rfl,trivial,by rw[<-dJ];exact a.aG.first.turn⟩
  rw[zab oM]at dJ;refine Zb0 ?_;have a:=k;unfold Kg at a;obtain⟨v8,a⟩:=a.ex0;have a:=a.bL;refine Ld a ?_;refine Zb2 ?_;exact⟨v8,by rw[<-dJ];rfl,trivial,by rw[<-dJ];exact a.aG.first.turn⟩
def DJ (sep:UInt8): ∀l:List (L8),l≠[]->iZ sep l++[sep]=l.flatMap (· ++[sep])
 | [],h=>zar rfl h
 | [w],_=>by simp[iZ]
 | w::x::l,_=>by
  have ih:=DJ sep (x::l) sM;show(w++sep::iZ sep (x::l))++[sep]=_
  rw[zbh,<-ih];simp
def MX {l:List bI} (h:(iO l).2=0) (hf:aZ l):(iO l).1.length<=400000:=by
 obtain⟨h1,h2,h3⟩:=MQ h;rw[h3]
 have:=BU 32 (k:=6146) (ws:=l.map gU) λw hw=>by
  obtain⟨x,hxm,rfl⟩:=zaq.1 hw;exact X6 (h2 x hxm) (hf x hxm)
 rw[zaf]at this;show(iZ 32 (l.map gU)).length<=_
 omega
def K7 {o:nO}:MI o=true↔((iO o.steps).2≠0\/(iO o.steps).1=[]):=by unfold MI;rw[decide_eq_true_iff]
def Tw (n:Int) (hn:fits n) (hT:iB w):Rk prog 77 [I n] w (str (Lib.itoa n)):=
 Calls.mono (Tryz.strconv_Itoa n hn.1 hn.2 w hT.pow) λe w' he=>by
  obtain⟨rfl,k,os,rfl⟩:=he;exact⟨rfl,Qb w k os⟩
variable {v:Value}
def agj (sep:UInt8) {l:List (L8)} (hr:aJ w v gN 1 l) (hl:l.length<=1000000) (hlen:(iZ sep l).length<=140737488355328):Rk prog 80 [v,str [sep]] w (str (iZ sep l)):=by
 obtain⟨A,c,rfl,⟨hc,hc'⟩,hR⟩:=hr
 by_cases h0:l=[]
 .subst h0
  exact Calls.mono (Tryz.strings_Join_none A c ⟨#[sep]⟩ w) λe w' he=>by
   obtain⟨rfl,rfl⟩:=he;exact⟨rfl,Kept.refl _ _⟩
 have Yj:0<l.length:=zfj.2 h0;obtain⟨ad,rfl⟩:=hR.addr Yj;obtain⟨x0,hx0⟩:=get_some Yj;obtain⟨ad',e0,hc0⟩:=hR.cell (f:=0) hx0 rfl;injection e0 with e0;subst e0
 have D7:=World.cell?_spot hc0;obtain⟨bk,o,sp⟩:=ad;have amD:sp=none:=D7;subst amD
 have hbk:bk<w.heap.size:=by
  refine Classical.byContradiction λhn=>?_;unfold World.cell? at hc0;rw[zdi (by show w.heap.size<=bk;omega)]at hc0;cases hc0
 have Gy:(l.map λs:L8=>(⟨s.toArray⟩:ByteArray)).map (·.data.toList)=l:=by
  rw[zdh];exact(zco λs _=>rfl).trans (List.map_id l)
 have:=qZ (Tryz.strings_Join bk o c (l.map λs=>⟨s.toArray⟩) ⟨#[sep]⟩ w (λj x hj=>by
  rw[zbz]at hj;obtain⟨s,hs,rfl⟩:=zbc.1 hj;obtain⟨ad',e1,hcs⟩:=hR.cell (f:=0) hs rfl;injection e1 with e1;subst e1
  rw[zfd,zfb,Addr.add_lit]at hcs;exact hcs) hbk (by rw[zaf];omega) (by rw[zaf];exact hc) (by rw[Gy];show(Lib.join l [sep]).length<=_;rw[join_eq];exact hlen))
 rw[Gy,zaf]at this;have e:Lib.join l [sep]=iZ sep l:=join_eq sep l;rw[<-e];exact this
theorem adw (hp:gX w v p) (Ai:aZ p.wh) (vM: ∀o∈p.cols,aZ o.steps) (hn:p.cols.length<=1000000) (hT:iB w):
    Rk prog 45 [v] w (.tuple #[str (J9 p).1,I (J9 p).2]):=by
  have eD:=hp;obtain⟨vw,vc,rfl,hw,r,hr,eF⟩:=hp;obtain⟨A,m,rfl,⟨hm,om⟩,hA⟩:=hr;obtain⟨C,n,rfl,⟨hwn,aoy⟩,hC⟩:=id hw;have zi:=eF.len;have H:=Sep.aF w;obtain⟨res,ak⟩: ∃res,res=J9 p:=⟨_,rfl⟩;rw[<-ak];unfold J9 at ak;have l9:Dr p≠true->res=([],2):=λh=>by rw[ak,zac (by simpa using h)]
  refine cK func45 ?_;refine Sr (bB H (cs:=[.slice C p.wh.length n,.slice A r.length m,I p.group]) rfl (h:=λb1 w2 H2 k1=>?_));refine Kz (WA (eD.keep H2.kept) hn) (λw7 H7 k6=>?_);refine Vv (Gives.not rfl) (Qn ?_);refine Cd rfl (λhc9=>?_) (λhc9=>?_)
  . have bT:res=([],2):=l9 λh=>by have h1:=(rz.1 h).1;rw[h1]at hc9;cases hc9
    refine Zb2 ?_;exact⟨by rw[bT];rfl,H7.kept⟩
  have RJ:j3 p=true:=by simpa using hc9
  obtain⟨⟨Ag,aoz,hg1,UJ⟩,ah9⟩:=ru RJ;refine Kz (VF (hw.keep H7.kept) Ai (hT.keep H7.kept)) (λwa Ha ka=>?_);refine Cz (λIe=>?_) (λIe=>?_)
  . have bT:res=([],2):=l9 λh=>Ie (rz.1 h).2.1
    refine Zb2 ?_;exact⟨by rw[bT];rfl,Ha.kept⟩
  have htw:(iO p.wh).2=0:=oM;have hwl:=MX htw Ai;refine Sk (dD (λ_:Unit=>[(1,ay b1),(4,str (if p.wh=[]then mD else(iO p.wh).1))]) (λ_ w'=>Sep w noB [blk b1 [.slice C p.wh.length n,.slice A r.length m,I p.group] 26] w') ?_ ?_)
  . refine Cz (λIf=>?_) (λIf=>?_)
    . have he:p.wh=[]:=zbg oM
      refine Zb1 ?_;exact au () ⟨rfl,by rw[zac he];rfl,trivial⟩ Ha
    have he: ¬p.wh=[]:=λe=>If (by rw[e];rfl);refine Zb0 ?_;exact au () ⟨rfl,by rw[zab he];rfl,trivial⟩ Ha
  intro _ τ wb Hb;have h4n:mD.length=4:=rfl;have hq4:(if p.wh=[]then mD else(iO p.wh).1).length<=400000:=by split<;>omega
  refine Lp ?_;refine Zb2 ?_;refine Bs Hb ([xg p.wh].flatMap gN) (λbs wc Hc kb=>?_);have Hc:=apX Hc;refine Zb5 ?_;have Hd:Mw.Sep w noB [aY 9 1 gN (.slice (some ⟨bs,0,none⟩) 1 1) (xg p.wh::(p.cols.take 0).map tF),blk b1 [.slice C p.wh.length n,.slice A r.length m,I p.group] 26] wc:=Hc;refine aI (λx:Nat×Value=>[(1,ay b1),(6,x.2),(31,.slice A r.length m),(32,I r.length),(33,I x.1)]) (λx w'=>(x.1<=r.length/\∀(j:Nat) o,j<x.1->p.cols[j]? =some o->MI o=false)/\Sep w noB [aY 9 1 gN x.2 (xg p.wh::(p.cols.take x.1).map tF),blk b1 [.slice C p.wh.length n,.slice A r.length m,I p.group] 26] w') (λx _=>r.length-x.1) (0,_) tR ⟨⟨zak _,λj o hj=>zar hj (zdv j)⟩,Hd⟩ (λx τ wd hI=>?_);obtain⟨i,v0⟩:=x;obtain⟨⟨hi,Ch⟩,Hd⟩:=hI;dsimp only at hi Ch Hd;have Gy:(xg p.wh::(p.cols.take i).map tF).length=i+1:=by rw[zas,zaf,zah];omega
  refine Lp ?_;refine Cz (λIg=>?_) (λIg=>?_)
  . have aS:i<p.cols.length:=oM
    obtain⟨vx,hx,Ci⟩:=eF.at aS;obtain⟨Ax,cx,rfl,_⟩:=id Ci;have rH:p.cols[i]? =some p.cols[i]:=zaa aS;obtain⟨o,ho⟩: ∃o,o=p.cols[i]:=⟨_,rfl⟩;rw[<-ho]at hx Ci rH;have Yo:=zag rH;have xY:xg p.wh::(p.cols.take (i+1)).map tF=(xg p.wh::(p.cols.take i).map tF)++[tF o]:=by rw[zay,rH,zai];rfl
    refine Az (λb8 we He kc=>?_);refine Tz (λwf Hf=>?_);refine Kz (VF (Ci.keep Hf.kept) (vM o Yo) (hT.keep Hf.kept)) (λwg Hg kd=>?_);refine Sz (λSa=>?_) (λSa=>?_)
    . have jN:MI o=true:=K7.2 (.inl Sa)
      refine Zb3 ?_;have bT:res=([],2):=l9 λh=>by have h1:=(rz.1 h).2.2 o Yo;rw[h1]at jN;cases jN
      exact⟨by rw[bT];rfl,Hg.kept⟩
    refine Cz (λIh=>?_) (λIh=>?_)
    . have jN:MI o=true:=K7.2 (.inr Ih)
      refine Zb2 ?_;have bT:res=([],2):=l9 λh=>by have h1:=(rz.1 h).2.2 o Yo;rw[h1]at jN;cases jN
      exact⟨by rw[bT];rfl,Hg.kept⟩
    have eZ:MI o=false:=by
      rw[<-zdo];intro h
      rcases K7.1 h with h | h
      . omega
      exact Ih h
    have hts:(iO o.steps).2=0:=oM;have aut:=MX hts (vM o Yo)
    have Lj:o.name.length<=32:=by
      have h5:=ah9 o Yo;unfold eU at h5;simp only[zbq,decide_eq_true_eq]at h5;omega
    refine Zb7 ?_;refine Bs Hg ([tF o].flatMap gN) (λbs wi Hh ke=>?_);refine dG Hh (news:=[tF o]) At1 (by rw[Gy];unfold maxLen;simp;omega) (by rw[Gy];simp;omega) (cells_one (λ_=>rfl) _) (h:=?_);intro v2 wj Hi;rw[<-xY]at Hi;refine Zb3 ?_;exact aj (i+1,v2) tR ⟨⟨dO,λj y hj hy=>by
    by_cases e:j=i
    . subst e;rw[rH]at hy;injection hy with hy;rw[<-hy];exact eZ
    exact Ch j y (by dsimp only at hj;omega) hy⟩,Hi.bH⟩ dO
  have jF:i=r.length:=oM;rw[jF,zaj oM]at Hd Gy
  have jE: ∀o∈p.cols,MI o=false:=λo ho=>by
    obtain⟨j,hj⟩:=zdb ho;exact Ch j o (by have:=fO hj;omega) hj
  have xZ:Dr p=true:=rz.2 ⟨RJ,htw,jE⟩;rw[zab (by rw[xZ];decide)]at ak;refine Za1 ?_;refine Qn (dD (λ_:Unit=>[(6,v0),(11,str (if p.group<0 then mD else itoa p.group))]) (λ_ w'=>Sep w noB [aY 9 1 gN v0 (xg p.wh::p.cols.map tF),blk b1 [.slice C p.wh.length n,.slice A r.length m,I p.group] 26] w') ?_ ?_)
  . refine Cz (λIi=>?_) (λIi=>?_)
    . have hg: ¬p.group<0:=oM
      refine Kz (Tw p.group ⟨oM,oM⟩ (hT.keep Hd.kept)) (λwk Hj kf=>?_);refine Zb1 ?_;exact au () ⟨rfl,by rw[zab hg];rfl,trivial⟩ Hj
    have hg:p.group<0:=oM;refine Zb0 ?_;exact au () ⟨rfl,by rw[zac hg];rfl,trivial⟩ Hd
  intro _ τ wl Hk;have h6:=itoa_length_le p.group oM oM;have hq6:(if p.group<0 then mD else itoa p.group).length<=30:=by split<;>omega
  refine Lp ?_;refine Zb3 ?_;refine Bs Hk ([yD p.group].flatMap gN) (λbs2 wm Hl kg=>?_);refine dG Hl (news:=[yD p.group]) At0 (by rw[Gy];unfold maxLen;simp;omega) (by rw[Gy];simp;omega) (cells_one (λ_=>rfl) _) (h:=?_);intro v2 wn Hm;have hlp:(xg p.wh::p.cols.map tF)++[yD p.group]=lJ p:=rfl;rw[hlp]at Hm;have EM:(lJ p).length<=1002:=by unfold lJ;rw[zas,zad,zaf,zae];omega
  have hlj:(iZ 10 (lJ p)).length<=(400100+1)*(lJ p).length:=BU 10 (k:=400100) λx hx=>by
    unfold lJ at hx
    rcases zba.1 hx with rfl | hx
    . unfold xg Tm
      rw[zad];have h4:mD.length=4:=rfl
      split<;>simp only[zas,zcb]<;>omega
    rcases zbk.1 hx with hx | hx
    . obtain⟨o,ho,rfl⟩:=zaq.1 hx
      have h1:=jE o ho;have h2:(iO o.steps).2=0:=Classical.byContradiction λh=>by rw[K7.2 (.inl h)]at h1;cases h1
      have h3:=MX h2 (vM o ho);have h5:=ah9 o ho;unfold eU at h5;simp only[zbq,decide_eq_true_eq]at h5;unfold tF Zc;simp only[zad,zas,zcb];omega
    rw[zau]at hx;subst hx;unfold yD MH;rw[zad];have h4:mD.length=4:=rfl;have h6:=itoa_length_le p.group oM oM
    split<;>simp only[zas,zcb]<;>omega
  refine Kz (agj 10 (jG Hm At0) oM oM) (λwo Hn kh=>?_);refine Zb3 ?_;exact⟨by rw[ak];show Value.tuple #[str (iZ 10 (lJ p)++[10]),I 0]=_;rw[DJ 10 _ (by unfold lJ;simp)];rfl,Hn.kept⟩
def Qt:j3 p=true↔(1<=p.cols.length/\p.cols.length<=16/\ -1<=p.group/\p.group<=p.cols.length)/\(∀o∈p.cols,eU o.name=true/\¬(0<=p.group/\o.name=iK))/\(p.cols.map (·.name)).Nodup:=by
 unfold j3;rw[zbq,zbq,decide_eq_true_iff,decide_eq_true_iff,zaz,and_assoc];refine and_congr_right λ_=>and_congr_left λ_=>?_;refine forall_congr' λo=>forall_congr' λ_=>?_;rw[zbq,zdg,Bool.and_eq_false_iff,decide_eq_false_iff_not,decide_eq_false_iff_not];exact and_congr_right λ_=>⟨λh ⟨a,b⟩=>h.elim (λh=>h a) λh=>h b,λh=>(Classical.em (0<=p.group)).elim (λa=>.inr λb=>h ⟨a,b⟩) .inl⟩
def qc (h: ¬((1<=p.cols.length/\p.cols.length<=16/\ -1<=p.group/\p.group<=p.cols.length)/\(∀o∈p.cols,eU o.name=true/\¬(0<=p.group/\o.name=iK))/\(p.cols.map (·.name)).Nodup)):j3 p=false:=eq_false_of_ne_true λe=>h (Qt.1 e)
def MZ {l:List nO}:(l.map (·.name)).Nodup↔∀(a b:Nat) x y,a<b->l[a]? =some x->l[b]? =some y->x.name≠y.name:=by
 unfold List.Nodup;rw[List.pairwise_map,List.pairwise_iff_getElem];constructor
 .intro h a b x y Oy hx hy
  obtain⟨ha,rfl⟩:=zbb.1 hx;obtain⟨hb,rfl⟩:=zbb.1 hy;exact h a b ha hb Oy
 intro h a b ha hb Oy;exact h a b _ _ Oy (zaa ha) (zaa hb)
def WC (s:L8):Rk prog 99 [str s] w (.bool (eU s)):=by
 have H:=Sep.aF w
 have jE: ∀(i:Nat) c,s[i]? =some c->mY c=false->eU s=false:=λi c hc hn=>by
  unfold eU;have :s.all mY=false:=by rw[List.all_eq_false];exact⟨c,zag hc,by rw[hn];decide⟩
  rw[this,Bool.and_false]
 refine cK func99 ?_;refine Sz (λk=>?_) (λk=>?_)
 .have UG: ¬(1<=s.length/\s.length<=32):=oM
  refine Zb2 ?_;exact⟨zaw Value.bool (by unfold eU;rw[zal UG,zdw,zdw]),H.kept⟩
 refine Cz (λk=>?_) (λk=>?_)
 .have UG: ¬(1<=s.length/\s.length<=32):=oM
  refine Zb1 ?_;exact⟨zaw Value.bool (by unfold eU;rw[zal UG,zdw,zdw]),H.kept⟩
 have UG:1<=s.length/\s.length<=32:=oM;refine Zb1 ?_;refine aI (λi:Nat=>[(0,str s),(3,I i)]) (λi w'=>(i<=s.length/\(s.take i).all mY=true/\(0<i->Tk (s.getD 0 0)=true))/\Sep w noB [] w') (λi _=>s.length-i) 0 tR ⟨⟨zak _,sM,λh=>zar h dC⟩,H⟩ (λi τ _ hI=>?_);obtain⟨⟨hi,dJ,hfi⟩,k⟩:=hI;refine Lp ?_;refine Cz (λS=>?_) (λS=>?_)
 .have aS:i<s.length:=oM
  obtain⟨c,hc⟩:=get_some aS;have hcd:s.getD i 0=c:=jr hc;have UK:mY c=true->(s.take (i+1)).all mY=true:=λh=>by rw[zay,hc,zcw,List.all_append,dJ,List.all_cons,h];rfl
  have jN: ¬(97<=c.toNat/\c.toNat<=122)->i=0->eU s=false:=λh e=>by
   unfold eU;rw[e]at hcd;have :Tk (s.getD 0 0)=false:=by rw[hcd];exact zal h
   rw[this,Bool.and_false,zdw]
  have vT:mY c=(decide (97<=c.toNat/\c.toNat<=122)||decide (c=95)||decide (48<=c.toNat/\c.toNat<=57)):=by unfold mY Tk tH;simp[UInt8.le_iff_toNat_le]
  have h95:c=95↔c.toNat=95:=⟨λh=>by rw[h];rfl,λh=>UInt8.toNat_inj.1 h⟩;refine Zb2 ?_;refine Vv (Gives.yT rfl rfl aS) ?_;rw[hcd];refine Sz (λS=>?_) (λS=>?_)
  .refine Sz (λS=>?_) (λS=>?_)
   .have Lj: ¬(97<=c.toNat/\c.toNat<=122):=oM
    refine Sz (λS=>?_) (λS=>?_)
    .have ak:=jN Lj oM
     refine Zb3 ?_;exact⟨by rw[ak];rfl,k.kept⟩
    have hi0: ¬i=0:=oM;refine Sz (λS=>?_) (λS=>?_)
    .have aia: ¬c=95:=λe=>S (by rw[e];rfl)
     refine Sz (λS=>?_) (λS=>?_)
     .have ak:=jE i c hc (by rw[vT,zal Lj,zal aia,zal oM];rfl)
      refine Zb5 ?_;exact⟨by rw[ak];rfl,k.kept⟩
     refine Cz (λS=>?_) (λS=>?_)
     .have ak:=jE i c hc (by rw[vT,zal Lj,zal aia,zal oM];rfl)
      refine Zb1 ?_;exact⟨by rw[ak];rfl,k.kept⟩
     have hn:mY c=true:=by rw[vT,zap (show 48<=c.toNat/\c.toNat<=57 from oM)];simp
     refine Zb3 ?_;exact aj (i+1) tR ⟨⟨oM,UK hn,λ_=>hfi oM⟩,k⟩ oM
    have hn:mY c=true:=by rw[vT,zap (h95.2 oM)];simp
    refine Zb6 ?_;exact aj (i+1) tR ⟨⟨oM,UK hn,λ_=>hfi oM⟩,k⟩ oM
   have hl:97<=c.toNat/\c.toNat<=122:=oM;refine Zb4 ?_;exact aj (i+1) tR ⟨⟨oM,UK (by rw[vT,zap hl];simp),λ_=>by
   rcases zec i with e | e
   .rw[e]at hcd;rw[hcd];exact zap hl
   exact hfi e⟩,k⟩ oM
  have Lj: ¬(97<=c.toNat/\c.toNat<=122):=oM;refine Sz (λS=>?_) (λS=>?_)
  .have ak:=jN Lj oM
   refine Zb3 ?_;exact⟨by rw[ak];rfl,k.kept⟩
  have hi0: ¬i=0:=oM;refine Sz (λS=>?_) (λS=>?_)
  .have aia: ¬c=95:=λe=>S (by rw[e];rfl)
   refine Sz (λS=>?_) (λS=>?_)
   .have ak:=jE i c hc (by rw[vT,zal Lj,zal aia,zal oM];rfl)
    refine Zb5 ?_;exact⟨by rw[ak];rfl,k.kept⟩
   refine Cz (λS=>?_) (λS=>?_)
   .have ak:=jE i c hc (by rw[vT,zal Lj,zal aia,zal oM];rfl)
    refine Zb1 ?_;exact⟨by rw[ak];rfl,k.kept⟩
   have hn:mY c=true:=by rw[vT,zap (show 48<=c.toNat/\c.toNat<=57 from oM)];simp
   refine Zb3 ?_;exact aj (i+1) tR ⟨⟨oM,UK hn,λ_=>hfi oM⟩,k⟩ oM
  have hn:mY c=true:=by rw[vT,zap (h95.2 oM)];simp
  refine Zb6 ?_;exact aj (i+1) tR ⟨⟨oM,UK hn,λ_=>hfi oM⟩,k⟩ oM
 have jF:i=s.length:=oM;rw[jF,zbr]at dJ;refine Zb1 ?_;exact⟨zaw Value.bool (by unfold eU;rw[zap UG,hfi oM,dJ];rfl),k.kept⟩
theorem adx (hp:gX w v p):Rk prog 59 [v] w (.bool (j3 p)):=by
 obtain⟨vw,vc,rfl,hw,r,hr,eF⟩:=hp;obtain⟨A,m,rfl,⟨hm,om⟩,hA⟩:=hr;have zi:=eF.len;have H:=Sep.aF w;refine cK func59 ?_;refine Sr (bB H (cs:=[vw,.slice A r.length m,I p.group]) rfl (h:=λb1 w2 H2 k1=>?_));refine Sz (λSa=>?_) (λSa=>?_)
 .have ak:j3 p=false:=qc λh=>oM
  refine Zb6 ?_;exact⟨by rw[ak];rfl,H2.kept⟩
 refine Sz (λSb=>?_) (λSb=>?_)
 .have ak:j3 p=false:=qc λh=>oM
  refine Zb4 ?_;exact⟨by rw[ak];rfl,H2.kept⟩
 refine Sz (λSc=>?_) (λSc=>?_)
 .have ak:j3 p=false:=qc λh=>oM
  refine Zb2 ?_;exact⟨by rw[ak];rfl,H2.kept⟩
 refine Cz (λIe=>?_) (λIe=>?_)
 .have ak:j3 p=false:=qc λh=>oM
  refine Zb1 ?_;exact⟨by rw[ak];rfl,H2.kept⟩
 have UG:1<=p.cols.length/\p.cols.length<=16/\ -1<=p.group/\p.group<=p.cols.length:=oM;refine Zb1 ?_;refine aI (λi:Nat=>[(1,ay b1),(3,I r.length),(4,I i)]) (λi w'=>(i<=p.cols.length/\(∀(a:Nat) x,a<i->p.cols[a]? =some x->eU x.name=true/\¬(0<=p.group/\x.name=iK))/\∀(a b:Nat) x y,a<b->b<i->p.cols[a]? =some x->p.cols[b]? =some y->x.name≠y.name)/\Sep w noB [blk b1 [vw,.slice A r.length m,I p.group] 26] w') (λi _=>p.cols.length-i) 0 tR ⟨⟨zak _,λa x h=>oM,λa b x y _ h=>oM⟩,H2⟩ (λi τ wa hI=>?_);obtain⟨⟨hi,hg,hd⟩,Ha⟩:=hI;refine Lp ?_;refine Cz (λIf=>?_) (λIf=>?_)
 .have aS:i<p.cols.length:=oM
  obtain⟨vx,hx,Ci⟩:=eF.at aS;have rH:p.cols[i]? =some p.cols[i]:=zaa aS;obtain⟨o,ho⟩: ∃o,o=p.cols[i]:=⟨_,rfl⟩;rw[<-ho]at hx Ci rH;have hom:=zag rH;refine Kz (WC o.name) (λwb Hb ka=>?_);refine Vv (Gives.not rfl) (Mv ?_);refine dH (t:=39) rfl (λSd=>?_) (λSd=>?_)
  .have ak:j3 p=false:=qc λh=>by rw[(h.2.1 o hom).1]at Sd;exact zar Sd dC
   refine Zb2 ?_;exact⟨by rw[ak];rfl,Hb.kept⟩
  have RJ:eU o.name=true:=by simpa using Sd
  refine Sz (λSe=>?_) (λSe=>?_)
  .refine Cz (λIg=>?_) (λIg=>?_)
   .have ak:j3 p=false:=qc λh=>(h.2.1 o hom).2 ⟨oM,Ig⟩
    refine Zb1 ?_;exact⟨by rw[ak];rfl,Hb.kept⟩
   have hgo: ¬(0<=p.group/\o.name=iK):=λh=>Ig h.2;refine Zb1 ?_;refine aI (λk:Nat=>[(1,ay b1),(3,I r.length),(4,I i),(5,I k)]) (λk w'=>(k<=i/\∀(a:Nat) x,a<k->p.cols[a]? =some x->x.name≠o.name)/\Sep w noB [blk b1 [vw,.slice A r.length m,I p.group] 26] w') (λk _=>i-k) 0 tR ⟨⟨zak _,λa x h=>oM⟩,Hb⟩ (λk τ wc hI=>?_);obtain⟨⟨hk,hdk⟩,Hc⟩:=hI;refine Lp ?_;refine Cz (λIh=>?_) (λIh=>?_)
   .have hkt:k<i:=oM
    obtain⟨vy,hy,hsy⟩:=eF.at (show k<p.cols.length from oM);have hpk:p.cols[k]? =some (p.cols[k]'oM):=zaa oM;obtain⟨u,hu⟩: ∃u,u=p.cols[k]'oM:=⟨_,rfl⟩;rw[<-hu]at hy hsy hpk;refine Dz (λSf wd Hd=>?_);refine Zb5 ?_;refine Gl Sf 5 rfl rfl (Gives.dz (i:=k) (f:=0) rfl Hd hA hy rfl) (Zb5 ?_);refine Gl Sf 11 rfl rfl (Gives.dz (i:=i) (f:=0) rfl Hd hA hx rfl) (Za1 ?_);refine fK Sf kR ?_;refine Cz (λIi=>?_) (λIi=>?_)
    .have ak:j3 p=false:=qc λh=>MZ.1 h.2.2 k i u o hkt hpk rH Ii
     refine Zb1 ?_;exact⟨by rw[ak];rfl,Hd.kept⟩
    refine Zb3 ?_;exact aj (k+1) tR ⟨⟨oM,λa x ha oZ=>by
    rcases zeb.1 ha with e | e
    .exact hdk a x e oZ
    subst e;rw[hpk]at oZ;injection oZ with oZ;rw[<-oZ];assumption⟩,Hd⟩ oM
   have KX:k=i:=oM;refine Zb3 ?_;exact aj (i+1) tR ⟨⟨oM,λa x ha oZ=>by
   rcases zeb.1 ha with e | e
   .exact hg a x e oZ
   .subst e;rw[rH]at oZ;injection oZ with oZ;rw[<-oZ];exact⟨RJ,hgo⟩,λa b x y Oy hb oZ EN=>by
   rcases zeb.1 hb with e | e
   .exact hd a b x y Oy e oZ EN
   subst e;rw[rH]at EN;injection EN with EN;rw[<-EN];exact hdk a x oM oZ⟩,Hc⟩ oM
  have hgo: ¬(0<=p.group/\o.name=iK):=λh=>Se h.1;refine Zb3 ?_;refine aI (λk:Nat=>[(1,ay b1),(3,I r.length),(4,I i),(5,I k)]) (λk w'=>(k<=i/\∀(a:Nat) x,a<k->p.cols[a]? =some x->x.name≠o.name)/\Sep w noB [blk b1 [vw,.slice A r.length m,I p.group] 26] w') (λk _=>i-k) 0 tR ⟨⟨zak _,λa x h=>oM⟩,Hb⟩ (λk τ we hI=>?_);obtain⟨⟨hk,hdk⟩,He⟩:=hI;refine Lp ?_;refine Cz (λIj=>?_) (λIj=>?_)
  .have hkt:k<i:=oM
   obtain⟨vy,hy,hsy⟩:=eF.at (show k<p.cols.length from oM);have hpk:p.cols[k]? =some (p.cols[k]'oM):=zaa oM;obtain⟨u,hu⟩: ∃u,u=p.cols[k]'oM:=⟨_,rfl⟩;rw[<-hu]at hy hsy hpk;refine Dz (λSg wf Hf=>?_);refine Zb5 ?_;refine Gl Sg 5 rfl rfl (Gives.dz (i:=k) (f:=0) rfl Hf hA hy rfl) (Zb5 ?_);refine Gl Sg 11 rfl rfl (Gives.dz (i:=i) (f:=0) rfl Hf hA hx rfl) (Za1 ?_);refine fK Sg kR ?_;refine Cz (λIk=>?_) (λIk=>?_)
   .have ak:j3 p=false:=qc λh=>MZ.1 h.2.2 k i u o hkt hpk rH Ik
    refine Zb1 ?_;exact⟨by rw[ak];rfl,Hf.kept⟩
   refine Zb3 ?_;exact aj (k+1) tR ⟨⟨oM,λa x ha oZ=>by
   rcases zeb.1 ha with e | e
   .exact hdk a x e oZ
   subst e;rw[hpk]at oZ;injection oZ with oZ;rw[<-oZ];assumption⟩,Hf⟩ oM
  have KX:k=i:=oM;refine Zb3 ?_;exact aj (i+1) tR ⟨⟨oM,λa x ha oZ=>by
  rcases zeb.1 ha with e | e
  .exact hg a x e oZ
  .subst e;rw[rH]at oZ;injection oZ with oZ;rw[<-oZ];exact⟨RJ,hgo⟩,λa b x y Oy hb oZ EN=>by
  rcases zeb.1 hb with e | e
  .exact hd a b x y Oy e oZ EN
  subst e;rw[rH]at EN;injection EN with EN;rw[<-EN];exact hdk a x oM oZ⟩,He⟩ oM
 have jF:i=p.cols.length:=oM;refine Zb1 ?_;exact⟨zaw Value.bool (Eq.symm (Qt.2 ⟨UG,λo ho=>by
 obtain⟨a,ha⟩:=List.mem_iff_getElem?.1 ho;exact hg a o (by have:=(zbb.1 ha).1;omega) ha,MZ.2 λa b x y Oy oZ EN=>hd a b x y Oy (by have:=(zbb.1 EN).1;omega) oZ EN⟩)),Ha.kept⟩
def rX (id:Int) (name:L8) (t:bM):Rk prog 61 [I id,str name,agg (aD t)] w (agg (aP (qp id name t))):=by
 have H:=Sep.aF w;refine zX func61 ?_;refine Sr (bB H (cs:=aD t) rfl (h:=λb5 _ _ _=>?_));refine Az (λb6 _ _ _=>?_);refine Dz (λk _ S=>?_);refine Zb4 ?_;refine dB k 4 [(2,false),(1,true),(0,true)] S (ahM t) (h:=λ_ S _=>⟨(bK rfl kR (Gives.JV rfl (S.obj At1) (us:=aD t) rfl rfl) rfl (av (av (eu)))),?_⟩);refine Gp k 5 rfl rfl (λ_=>(Gives.build (out:=aP (qp id name t)) (Fills.one rfl rfl rfl sM rfl (Fills.one rfl rfl rfl sM rfl (Fills.many rfl rfl (zbe rfl) rfl (Fills.many rfl rfl (zbe rfl) rfl Fills.nil)))))) (bN k 6 _ S (h:=λ_ S=>⟨sT,?_⟩));refine Zb0 ?_;exact⟨_,fB S,rfl,S.kept⟩
theorem ady {cols:List bY} {vp:Value} (hc:aJ w vc aP 7 cols) (hp:gX w vp p):
    aR prog 34 [vc,vp] w λv w'=>∃x,v=.tuple #[x,I (bX cols p).2]/\True/\Turn noB (aY 67 7 aP x (bX cols p).1) w w':=by
  have eD:=hp;obtain⟨vw,vq,rfl,hw,r,hr,eF⟩:=hp;obtain⟨A,m,rfl,⟨hm,om⟩,hA⟩:=hr;have zi:=eF.len;have H:=Sep.aF w;obtain⟨res,ak⟩: ∃res,res=bX cols p:=⟨_,rfl⟩;rw[<-ak];unfold bX at ak;obtain⟨C,n,rfl,⟨hwn,aoy⟩,hC⟩:=id hw;refine bQ func34 ?_;refine Sr (bB H (cs:=[.slice C p.wh.length n,.slice A r.length m,I p.group]) rfl (h:=λb3 _ k _=>?_));refine Kz (adx (eD.keep k.kept)) (λ_ k _=>?_);refine Vv (Gives.not rfl) (Qn ?_);refine Cd rfl (λS=>?_) (λS=>?_)
  . rw[zac (by simpa using S)]at ak
    refine Zb2 ?_;exact⟨_,by rw[ak];rfl,trivial,by rw[ak];exact(Sep.iW k 67 7 aP).first.turn⟩
  rw[zab (by simpa using S)]at ak;have aoz:p.cols.length<=16:=(ru (by simpa using S)).1.2.1;refine Sk (dD (λ_:Unit=>[(0,vc),(3,ay b3)]) (λ_ w'=>res=Bg cols p.group 0 p.cols []/\Sep w noB [blk b3 [.slice C p.wh.length n,.slice A r.length m,I p.group] 26] w') ?_ ?_)
  . refine Cz (λS=>?_) (λS=>?_)
    . have iN:p.wh≠[]:=λe=>by rw[e]at S;exact zar S dC
      refine Kz (JL (hc.keep k.kept) (hw.keep k.kept)) (λ_ _ _=>?_);refine Az (λb6 _ _ _=>?_);refine Tz (λ_ S=>?_);refine Cz (λa=>?_) (λa=>?_)
      . rw[zac ⟨iN,a⟩]at ak
        refine Zb3 ?_;exact⟨_,by rw[ak];rfl,trivial,by rw[ak];exact(Sep.iW S 67 7 aP).first.turn⟩
      rw[zab (λh=>a h.2)]at ak;refine Cz (λa=>?_) (λa=>?_)
      . rw[zac ⟨iN,a⟩]at ak
        refine Zb2 ?_;exact⟨_,by rw[ak];rfl,trivial,by rw[ak];exact(Sep.iW S 67 7 aP).first.turn⟩
      rw[zab (λh=>a h.2)]at ak;refine Zb0 ?_;exact au () tR ⟨ak,S.bH⟩
    have he:p.wh=[]:=zbg oM;rw[zab (λh=>h.1 he),zab (λh=>h.1 he)]at ak;refine Zb0 ?_;exact au () tR ⟨ak,k⟩
  rintro _ τ a ⟨hres2,a⟩;refine Lp ?_;refine Sr (Vb (aD iL) ?_);refine Az (λb8 _ _ _=>?_);refine Tz (λ_ a=>?_);refine Zb2 ?_;have S:=Sep.iW a 67 7 aP;refine aI (λx:Nat×List bY×Value=>[(0,vc),(3,ay b3),(8,ay b8),(9,x.2.2),(10,I x.1)]) (λx w'=>(x.1<=r.length/\x.2.1.length<=2*x.1/\Bg cols p.group x.1 (p.cols.drop x.1) x.2.1=res)/\Sep w noB [aY 67 7 aP x.2.2 x.2.1,blk b8 (aD iL) 65,blk b3 [.slice C p.wh.length n,.slice A r.length m,I p.group] 26] w') (λx _=>r.length-x.1) (0,[],.slice none 0 0) tR ⟨⟨zak _,dC,hres2.symm⟩,S⟩ (λx τ _ hI=>?_);obtain⟨i,acc,v0⟩:=x;obtain⟨⟨hi,U1,dJ⟩,S⟩:=hI;dsimp only at hi U1 dJ S;refine Lp ?_;refine Cz (λa=>?_) (λa=>?_)
  . have aS:i<p.cols.length:=oM
    obtain⟨vx,hx,Ci⟩:=eF.at aS;have rH:p.cols[i]? =some p.cols[i]:=zaa aS;obtain⟨o,ho⟩: ∃o,o=p.cols[i]:=⟨_,rfl⟩;rw[<-ho]at hx Ci rH;rw[Qs rH,Bg]at dJ;refine Kz (JL (hc.keep S.kept) (Ci.keep S.kept)) (λ_ _ _=>?_);refine Az (λb11 _ _ _=>?_);refine Tz (λ_ a=>?_);refine Cz (λk=>?_) (λk=>?_)
    . rw[zac k]at dJ
      refine Zb3 ?_;exact⟨_,by rw[<-dJ];rfl,trivial,by rw[<-dJ];exact(Sep.iW a 67 7 aP).first.turn⟩
    rw[zab k]at dJ;refine Sk (dD (λz:Value=>[(0,vc),(3,ay b3),(8,ay b8),(9,z),(10,I i),(11,ay b11)]) (λz w'=>Sep w noB [aY 67 7 aP z (if(i:Int)=p.group then acc++[qp ((i:Int)+1) iK iL]else acc),blk b11 (aD (iJ cols o.steps).1) 65,blk b8 (aD iL) 65,blk b3 [.slice C p.wh.length n,.slice A r.length m,I p.group] 26] w') ?_ ?_)
    . refine Sz (λk=>?_) (λk=>?_)
      . refine Cz (λb=>?_) (λb=>?_)
        . have hig:(i:Int)=p.group:=b
          refine Zb2 ?_;refine Vc ((i:Int)+1) ?_;refine Kz (rX ((i:Int)+1) iK iL) (λ_ c _=>?_);refine Bs c ([qp ((i:Int)+1) iK iL].flatMap aP) (λbs _ c _=>?_);refine dG c (news:=[qp ((i:Int)+1) iK iL]) At1 (by unfold maxLen;simp;omega) (by simp;omega) (cells_one (λ_=>rfl) _) (h:=?_);intro v2 c c;refine Zb1 ?_;exact au v2 tR (by rw[zac hig];exact c.aG)
        have hig: ¬(i:Int)=p.group:=b;refine Zb0 ?_;exact au v0 tR (by rw[zab hig];exact a.aG)
      have hig: ¬(i:Int)=p.group:=λe=>k oM;refine Zb1 ?_;exact au v0 tR (by rw[zab hig];exact a.aG)
    intro v1 τ c c;refine Lp ?_;refine Sz (λb=>?_) (λb=>?_)
    . have U2: ¬(0<=p.group/\p.group<=i):=λh=>oM
      rw[zab U2]at dJ;refine Dz (λb _ k=>?_);refine Zb2 ?_;refine Gc b 2 ((i:Int)+1) ?_;refine Zb7 ?_;have amJ: ¬(i:Int)=p.group:=λe=>U2 ⟨oM,oM⟩;rw[zab amJ]at k;refine dB b 10 _ k (rX ((i:Int)+1) o.name (iJ cols o.steps).1) (h:=λ_ k _=>⟨sT,?_⟩);refine Gz b 11 _ k ([qp ((i:Int)+1) o.name (iJ cols o.steps).1].flatMap aP) (h:=λbs _ k=>⟨sT,?_⟩);refine gF b 12 _ k (news:=[qp ((i:Int)+1) o.name (iJ cols o.steps).1]) At0 (by unfold maxLen;simp;omega) (by simp;omega) (cells_one (λ_=>rfl) _) (h:=λv3 _ k=>⟨sT,?_⟩);refine sH b 13 _ (h:=⟨sT,?_⟩);refine Zb3 ?_;exact aj (i+1,acc++[qp ((i:Int)+1) o.name (iJ cols o.steps).1],v3) tR ⟨⟨dO,by dsimp only;rw[zad,zae];omega,dJ⟩,k.aG.bH⟩ dO
    refine Cz (λk=>?_) (λk=>?_)
    . have U2: ¬(0<=p.group/\p.group<=i):=λh=>oM
      rw[zab U2]at dJ;refine Dz (λk _ b=>?_);refine Zb2 ?_;refine Gc k 2 ((i:Int)+1) ?_;refine Zb7 ?_;have amJ: ¬(i:Int)=p.group:=λe=>U2 ⟨oM,oM⟩;rw[zab amJ]at b;refine dB k 10 _ b (rX ((i:Int)+1) o.name (iJ cols o.steps).1) (h:=λ_ b _=>⟨sT,?_⟩);refine Gz k 11 _ b ([qp ((i:Int)+1) o.name (iJ cols o.steps).1].flatMap aP) (h:=λbs _ b=>⟨sT,?_⟩);refine gF k 12 _ b (news:=[qp ((i:Int)+1) o.name (iJ cols o.steps).1]) At0 (by unfold maxLen;simp;omega) (by simp;omega) (cells_one (λ_=>rfl) _) (h:=λv3 _ b=>⟨sT,?_⟩);refine sH k 13 _ (h:=⟨sT,?_⟩);refine Zb3 ?_;exact aj (i+1,acc++[qp ((i:Int)+1) o.name (iJ cols o.steps).1],v3) tR ⟨⟨dO,by dsimp only;rw[zad,zae];omega,dJ⟩,b.aG.bH⟩ dO
    have U2:0<=p.group/\p.group<=i:=oM;rw[zac U2]at dJ;refine Cz (λb=>?_) (λb=>?_)
    . rw[zac b]at dJ
      refine Zb2 ?_;exact⟨_,by rw[<-dJ];rfl,trivial,by rw[<-dJ];exact(Sep.iW c 67 7 aP).first.turn⟩
    rw[zab b]at dJ;obtain⟨acc2,Yn⟩: ∃acc2,acc2=if(i:Int)=p.group then acc++[qp ((i:Int)+1) iK iL]else acc:=⟨_,rfl⟩
    rw[<-Yn]at c dJ
    have aqU:acc2.length<=2*i+1:=by
      rw[Yn]
      split
      . rw[zad,zae];omega
      omega
    refine Dz (λb _ c=>?_);refine Zb2 ?_;refine Gc b 2 ((i:Int)+2) ?_;refine Zb7 ?_;refine dB b 10 _ c (rX ((i:Int)+2) o.name iL) (h:=λ_ c _=>⟨sT,?_⟩);refine Gz b 11 _ c ([qp ((i:Int)+2) o.name iL].flatMap aP) (h:=λbs _ c=>⟨sT,?_⟩);refine gF b 12 _ c (news:=[qp ((i:Int)+2) o.name iL]) At0 (by unfold maxLen;simp;omega) (by simp;omega) (cells_one (λ_=>rfl) _) (h:=λv3 _ c=>⟨sT,?_⟩);refine sH b 13 _ (h:=⟨sT,?_⟩);refine Zb3 ?_;exact aj (i+1,acc2++[qp ((i:Int)+2) o.name iL],v3) tR ⟨⟨dO,by dsimp only;rw[zad,zae];omega,dJ⟩,c.aG.bH⟩ dO
  have jF:i=r.length:=oM;rw[jF,zi,zef,Bg]at dJ;refine Cz (λc=>?_) (λc=>?_)
  . rw[zac oM]at dJ
    refine Zb3 ?_;refine Vc (p.group+1) ?_;refine Kz (rX (p.group+1) iK iL) (λ_ c _=>?_);refine Bs c ([qp (p.group+1) iK iL].flatMap aP) (λbs _ c _=>?_);refine dG c (news:=[qp (p.group+1) iK iL]) At0 (by unfold maxLen;simp;omega) (by simp;omega) (cells_one (λ_=>rfl) _) (h:=?_);intro v2 c c;refine Zb4 ?_;exact⟨v2,by rw[<-dJ];rfl,trivial,by rw[<-dJ];exact c.first.turn⟩
  rw[zab oM]at dJ;refine Zb3 ?_;exact⟨v0,by rw[<-dJ];rfl,trivial,by rw[<-dJ];exact S.first.turn⟩
def Qu: ∀s:L8,Lib.index s [32]=match s.idxOf? 32 with | some i=>(i:Int) | none=> -1
 | []=>rfl
 | c::t=>by
  have ih:=Qu t
  by_cases h:c=32
  .subst h
   have e:List.idxOf? 32 (32::t)=some 0:=by unfold List.idxOf?;rw[List.findIdx?_cons];rfl
   rw[Mq,e];rfl
  have hb:(c==32)=false:=by simpa using h
  have e:List.idxOf? 32 (c::t)=(List.idxOf? 32 t).map (· +1):=by unfold List.idxOf?;rw[List.findIdx?_cons,hb];rfl
  rw[J2 h,ih,e];cases List.idxOf? 32 t with
  | none=>rfl
  | some i=>
   show(if(i:Int)= -1 then(-1:Int)else(i:Int)+1)=((i+1:Nat):Int)
   rw[zab oM];omega
def ai9 (s:L8):(Lib.cut s [32]).1=(jI s).1/\(Lib.cut s [32]).2.1=(jI s).2:=by
 unfold Lib.cut jI zD;rw[Qu];cases h:s.idxOf? 32 with
 | none=>simp
 | some i=>simp
def Qv (s:L8):(jI s).1.length<=s.length/\(jI s).2.length<=s.length:=by
 unfold jI;cases h:zD s with
 | none=>simp
 | some x=>
  obtain⟨a,b⟩:=x;have:=aga h;rw[this];simp only[zde,zad];omega
def WE {n:L8} (hv:v.oneCell'=true): ∀u∈[(n,v)].flatMap dL,u.oneCell'=true:=λu hu=>by
 simp only[zbh,zfm,zbw,dL,zba,zan,or_false]at hu
 rcases hu with rfl | rfl
 .rfl
 exact hv
def adz {l:L8} {v:Int} (h:atoiAll l=.ok v):fits v:=atoiAll_bounds h
def Kh (b:Nat) (p:aU) (st:Int):HP:=exH λx:Value×Value×List (L8×Value)=>jf [blk b [x.1,x.2.1,I p.group,I st] 102,FB x.1 aM 3 p.wh,aY 49 2 dL x.2.1 x.2.2,Al x.2.2 p.cols]
def anR (b:Nat):Option (aU×Int)->HP
 | some r=>Kh b r.1 r.2
 | none=>emp
variable {w0:Wd} {S:NP} {rs:List HP}
variable {b:Nat} {st:Int}
def uj {p:aU} {vw:Value} {r:List (L8×Value)} (H:Mw.Sep w0 S (blk b [vw,vc,I p.group,I st] 102::FB vw aM 3 p.wh::aY 49 2 dL vc r::Al r p.cols::rs) w):Mw.Sep w0 S (Kh b p st::rs) w:=
 Sep.uF (p:=λx:Value×Value×List (L8×Value)=>jf [blk b [x.1,x.2.1,I p.group,I st] 102,FB x.1 aM 3 p.wh,aY 49 2 dL x.2.1 x.2.2,Al x.2.2 p.cols]) (vw,vc,r) (Sep.bundle (l:=[_,_,_,_]) H)
def M0 (H:Mw.Sep w0 S (Kh b p st::rs) w): ∃vw vc r,Mw.Sep w0 S (blk b [vw,vc,I p.group,I st] 102::FB vw aM 3 p.wh::aY 49 2 dL vc r::Al r p.cols::rs) w:=by
 unfold Kh at H;obtain⟨⟨vw,vc,r⟩,H⟩:=H.ex0;exact⟨vw,vc,r,Sep.parts H⟩
def o8 {F:NP} (H:Mw.Sep w0 F rs w):Turn F emp w0 w:=(Sep.lu (φ:=True) trivial H).first.turn
def agk (s:L8) (hl:s.length<=1048576) (hT:iB w):aR prog 74 [str s,str [32]] w λv w'=>(∃b,v=.tuple #[str (jI s).1,str (jI s).2,.bool b])/\Kept noB w w':=by
 obtain⟨m,hm⟩:=hT.len;have hs:(⟨s.toArray⟩:ByteArray).size=s.length:=Mw.size_mk s
 exact Calls.mono (Tryz.strings_Cut ⟨s.toArray⟩ ⟨#[32]⟩ m w (by rw[hs];omega) hm) λe w' he=>by
  obtain⟨rfl,n,rfl⟩:=he;obtain⟨h1,h2⟩:=ai9 s;refine⟨⟨(Lib.cut s [32]).2.2,?_⟩,(Kept.refl noB w).anz _⟩;show Value.tuple #[str (Lib.cut s [32]).1,str (Lib.cut s [32]).2.1,.bool (Lib.cut s [32]).2.2]=_
  rw[h1,h2]
def aja (t:L8) (hl:t.length<=1048576) (hT:iB w):aR prog 76 [str t] w λv w'=>(∃n e b,v=.tuple #[I n,e]/\IsNil e b/\(b=true->atoiAll t=.ok n)/\(b=false->∀m,atoiAll t≠ .ok m))/\Kept noB w w':=by
 have hs:(⟨t.toArray⟩:ByteArray).size=t.length:=Mw.size_mk t;cases h:atoiAll t
 .rename_i v
  exact Calls.mono (Tryz.strconv_Atoi_ok ⟨t.toArray⟩ (by rw[hs];omega) v h w) λe w' he=>by
   obtain⟨rfl,hw⟩:=he;refine⟨⟨v,.nilIface,true,rfl,.inl ⟨rfl,rfl⟩,λ_=>rfl,λhf=>by cases hf⟩,?_⟩
   rcases hw with rfl | ⟨t,rfl⟩
   .exact Kept.refl _ _
   exact Kept.of_below (Lib.bytesWorld_below _ _ _)
 .skip
  obtain⟨tp,p,hv⟩:=hT.syn
  exact Calls.mono (Tryz.strconv_Atoi_syntax_var ⟨t.toArray⟩ (by rw[hs];omega) h rfl tp p w hv) λe w' he=>by
   obtain⟨N,rfl,_,_,hb⟩:=he;exact⟨⟨_,_,false,rfl,.inr ⟨rfl,_,_,rfl⟩,(λhf=>by cases hf),λ_ m hm=>by cases hm⟩,Kept.of_below hb⟩
 skip;obtain⟨tp,p,hv⟩:=hT.ran
 exact Calls.mono (Tryz.strconv_Atoi_range_var ⟨t.toArray⟩ (by rw[hs];omega) h tp p w hv) λe w' he=>by
  obtain⟨N,rfl,_,_,hb⟩:=he;exact⟨⟨_,_,false,rfl,.inr ⟨rfl,_,_,rfl⟩,(λhf=>by cases hf),λ_ m hm=>by cases hm⟩,Kept.of_below hb⟩
def Qw (t:L8) (hl:t.length<=1000000) (hT:iB w):aR prog 75 [str t] w λv w'=>∃x,v=.tuple #[x,.bool (nI t).isSome]/\True/\Turn noB (aY 97 3 aM x (d9 t).1) w w':=by
 have H:=Sep.aF w;obtain⟨res,ak⟩: ∃res,res=(nI t).isSome:=⟨_,rfl⟩;rw[<-ak];unfold nI at ak;refine cK func75 ?_;refine Nz (ac5 t (.inl hl) oM (hT.keep H.kept)) (λx _ _ k _=>?_);obtain⟨B,cb,rfl,OO,hB⟩:=Sep.bJ k At0;refine Sz (λS=>?_) (λS=>?_)
 .have he:(d9 t).2=0:=S
  refine Zb6 ?_;exact⟨_,by first | (rw[ak];rfl) | (rw[ak];by_cases hq:(d9 t).1=[]<;>simp[hq,he,fG,zfj]),trivial,k.turn⟩
 rw[zab (λh=>S h.1)]at ak;refine Zb3 ?_;exact⟨_,by first | (rw[ak];rfl) | (rw[ak];by_cases hq:(d9 t).1=[]<;>simp[hq,he,fG,zfj]),trivial,k.turn⟩
theorem ajb {F:NP} (s:L8) (hp:(Kh b p st).ok F w) (dJ:st=0\/st=1\/st=2\/st=3) (hl:s.length<=1000000) (hn:p.cols.length<=1000000) (hT: ∀w',Kept F w w'->iB w'):
    aR prog 44 [ay b,str s] w λv w'=>v=.bool (jJ p st s).isSome/\Turn F (anR b (jJ p st s)) w w':=by
  obtain⟨vw,vc,r,H⟩:=M0 (Sep.bR hp);obtain⟨res,ak⟩: ∃res,res=jJ p st s:=⟨_,rfl⟩;rw[<-ak];unfold jJ at ak;obtain⟨wd,hwd⟩: ∃wd,wd=(jI s).1:=⟨_,rfl⟩;obtain⟨rest,Gs⟩: ∃rest,rest=(jI s).2:=⟨_,rfl⟩;have zi:rest.length<=1000000:=by have:=(Qv s).2;rw[Gs];omega
  rw[<-hwd,<-Gs]at ak;obtain⟨A,ca,rfl,hca,hA⟩:=Sep.bJ H At2;have eF:o7 w r p.cols:=Sep.sees H At3;have hrn:=eF.len
  have hvw: ∃A c,vw=.slice A p.wh.length c:=by
    obtain⟨A,c,e,_⟩:=(Sep.sees H At1:aJ w vw aM 3 p.wh);exact⟨A,c,e⟩
  obtain⟨Aw,cw,rfl⟩:=hvw;refine bQ func44 ?_;refine Zb2 ?_;refine aL (agk s oM (hT _ H.kept)) rfl rfl (λv' _ hv=>?_);obtain⟨⟨b7,rfl⟩,bZ⟩:=hv;have S:=H.keep bZ;rw[<-hwd,<-Gs];refine aqh ?_;refine Qn (uz (dD (λ_:Unit=>[(0,ay b),(5,str wd),(6,str rest)]) (λ_ w'=>(res=(Zm s).map λo=>(⟨p.wh,p.cols++[o],p.group⟩,2))/\Sep w F [blk b [.slice Aw p.wh.length cw,.slice A r.length ca,I p.group,I st] 102,FB (.slice Aw p.wh.length cw) aM 3 p.wh,aY 49 2 dL (.slice A r.length ca) r,Al r p.cols] w') ?_ ?_))
  . refine Cz (λa=>?_) (λa=>?_)
    . rw[zac a]at ak
      refine Uz (λ_ d=>?_);refine Sz (λf=>?_) (λf=>?_)
      . have Au: ¬wd=Bl:=f
        rw[zab Au]at ak;refine Zb4 ?_;exact⟨by rw[ak];exact zaw Value.bool (zal Au),by rw[ak];exact o8 d⟩
      have Au:wd=Bl:=zcr.1 f;rw[zac Au]at ak;refine Cz (λf=>?_) (λf=>?_)
      . have Yh:rest=mD:=f
        rw[zac Yh]at ak;refine Zb3 ?_;exact⟨by rw[ak];exact zaw Value.bool (zap Au),by rw[ak];exact(uj (p:=p) d).first.turn⟩
      rw[zab (show ¬rest=mD from f)]at ak;refine Nz (Qw rest zi (hT _ d.kept)) (λx _ _ f _=>?_);obtain⟨B,cb,rfl,OO,hB⟩:=Sep.bJ f At0;refine Uz (λ_ f=>?_);refine Zb2 ?_;rw[ak];unfold nI
      by_cases hq:(d9 rest).2=0/\(d9 rest).1≠[]
      . rw[zac hq]
        refine⟨rfl,?_⟩;exact(uj (p:=⟨(d9 rest).1,p.cols,p.group⟩) (Sep.aG (dU f At0)).aN.bH).first.turn
      rw[zab hq];exact⟨rfl,o8 f⟩
    have f: ¬st=0:=a;rw[zab f]at ak;refine Cz (λf=>?_) (λf=>?_)
    . have a:st=2:=f
      refine Cz (λd=>?_) (λd=>?_)
      . rw[zac ⟨a,d⟩]at ak
        refine Uz (λ_ g=>?_);refine Zb1 ?_;refine aL (aja rest oM (hT _ g.kept)) rfl rfl (λv' _ hv=>?_);obtain⟨⟨n,ev,bn,rfl,ae0,EH,amK⟩,bZ⟩:=hv;have i:=g.keep bZ;refine Cz (λi=>?_) (λi=>?_)
        . have Yh:rest=mD:=i
          have hgc:qD rest=some (-1):=by unfold qD;rw[zac Yh]
          rw[hgc]at ak;refine Uz (λ_ g=>?_);refine Zb1 ?_;refine Vv (Gives.Um (b:=true) (.inl ⟨rfl,rfl⟩) rfl rfl) (Mv ?_);refine dH (t:=74) rfl (λj=>?_) (λj=>?_)
          . refine Sz (λm=>?_) (λm=>?_)
            . refine Sz (λq=>?_) (λq=>?_)
              . exact zar q dC
              refine Zb5 ?_;exact⟨by rw[ak];exact zaw Value.bool (zap Yh),by rw[ak];exact(uj (p:=⟨p.wh,p.cols, -1⟩) g).first.turn⟩
            exact zar (show(-1:Int)<0 from dC) m
          exact Bool.noConfusion j
        have Yh: ¬rest=mD:=i;have hgc:qD rest=(pO rest).map λn:Nat=>((n:Nat):Int):=by unfold qD;rw[zab Yh]
        refine Uz (λ_ q=>?_);refine Zb1 ?_;refine Vv (Gives.Um ae0 rfl rfl) (Mv ?_);refine dH (t:=74) rfl (λm=>?_) (λm=>?_)
        . have hat:atoiAll rest=.ok n:=EH m
          have Yp:=adz hat;refine Sz (λj=>?_) (λj=>?_)
          . have l9:qD rest=none:=by
              rw[hgc];cases hq:pO rest with
              | none=>rfl
              | some k=>
                have h1:=(rU.2 (show(pO rest).map (λn:Nat=>((n:Nat):Int))=some (k:Int) by rw[hq];rfl)).1;rw[hat]at h1;injection h1 with h1
                omega
            refine Sz (λj=>?_) (λj=>?_)
            . exact zar j oM
            refine Zb5 ?_;exact⟨by rw[ak,l9];exact zaw Value.bool (zal Yh),by rw[ak,l9];exact o8 q⟩
          refine Kz (Tw n Yp (hT _ q.kept)) (λ_ j _=>?_);refine Sz (λg=>?_) (λg=>?_)
          . refine Sz (λi=>?_) (λi=>?_)
            . have ab9:qD rest=some n:=by rw[hgc];exact rU.1 ⟨hat,oM,by assumption,i⟩
              refine Sz (λi=>?_) (λi=>?_)
              . refine Zb3 ?_
                exact⟨by rw[ak,ab9];rfl,by rw[ak,ab9];exact(uj (p:=⟨p.wh,p.cols,n⟩) j).first.turn⟩
              exact zar (show 0<=n from oM) i
            have l9:qD rest=none:=by
              rw[hgc];cases hq:pO rest with
              | none=>rfl
              | some k=>
                have h1:=rU.2 (show(pO rest).map (λn:Nat=>((n:Nat):Int))=some (k:Int) by rw[hq];rfl);have h2:=h1.1;rw[hat]at h2;injection h2 with h2
                omega
            refine Zb2 ?_;exact⟨by rw[ak,l9];rfl,by rw[ak,l9];exact o8 j⟩
          have l9:qD rest=none:=by
            rw[hgc];cases hq:pO rest with
            | none=>rfl
            | some k=>
              have h1:=rU.2 (show(pO rest).map (λn:Nat=>((n:Nat):Int))=some (k:Int) by rw[hq];rfl);have h2:=h1.1;rw[hat]at h2;injection h2 with h2
              exact zar (by rw[h2];exact h1.2.2.1) g
          refine Zb6 ?_;exact⟨by rw[ak,l9];rfl,by rw[ak,l9];exact o8 j⟩
        have l9:qD rest=none:=by
          rw[hgc];cases hq:pO rest with
          | none=>rfl
          | some k=>exact zar (rU.2 (by rw[hq];rfl)).1 (amK (by simpa using m) _)
        refine Zb4 ?_;exact⟨by rw[ak,l9];rfl,by rw[ak,l9];exact o8 q⟩
      rw[zab (λh=>d h.2),zac (.inr a)]at ak;refine Zb0 ?_;exact au () tR ⟨ak,S⟩
    have a: ¬st=2:=f;rw[zab (λh=>a h.1)]at ak;refine Cz (λi=>?_) (λi=>?_)
    . have g:st=1\/st=2:=.inl i
      rw[zac g]at ak;refine Zb0 ?_;exact au () tR ⟨ak,S⟩
    rw[zab oM]at ak;refine Zb1 ?_;exact⟨by rw[ak];rfl,by rw[ak];exact o8 S⟩
  rintro _ τ g ⟨hres2,g⟩;refine Lp ?_;refine Uz (λ_ g=>?_);refine Zb1 ?_;refine aL (agk rest oM (hT _ g.kept)) rfl rfl (λv' _ hv=>?_);obtain⟨⟨b14,rfl⟩,bZ⟩:=hv;have i:=g.keep bZ;obtain⟨name,akW⟩: ∃name,name=(jI rest).1:=⟨_,rfl⟩;obtain⟨text,aib⟩: ∃text,text=(jI rest).2:=⟨_,rfl⟩;have AJ:text.length<=1000000:=by have:=(Qv rest).2;rw[aib];omega
  unfold Zm at hres2;rw[<-hwd,<-Gs,<-akW,<-aib]at hres2;rw[<-akW,<-aib];refine Nz (Qw text AJ (hT _ i.kept)) (λx _ _ i _=>?_);obtain⟨B,cb,rfl,OO,hB⟩:=Sep.bJ i At0;refine Un ?_;refine Vb (dL (name,.slice B (d9 text).1.length cb)) ?_;refine Bs i ([(name,Value.slice B (d9 text).1.length cb)].flatMap dL) (λbs _ i _=>?_);refine dG i (news:=[(name,Value.slice B (d9 text).1.length cb)]) At3 (by unfold maxLen;simp;omega) (by simp;omega) (WE rfl) (h:=?_);intro v2 i i;obtain⟨A2,c2,rfl,g,hA2⟩:=Sep.bJ i At3;refine Uz (λ_ g=>?_);refine Zb2 ?_;refine dH (t:=125) rfl (λi=>?_) (λi=>?_)
  . have his:(nI text).isSome=true:=i
    refine Sz (λS=>?_) (λS=>?_)
    . have hwo:wd=O5:=S
      refine Kz (Qr _) (λ_ j _=>?_);refine Zb2 ?_;cases hq:eU name with
      | false=>exact⟨by rw[hres2,zab (λh=>by rw[hq]at h;cases h.2)];rfl,by rw[hres2,zab (λh=>by rw[hq]at h;cases h.2)];exact o8 j⟩
      | true=>
        have Dv:nI text=some (d9 text).1:=by
          unfold nI at his |-
          split at his
          . rename_i h1;rw[zac h1]
          cases his
        refine⟨by rw[hres2,zac ⟨hwo,hq⟩,Dv];rfl,?_⟩;rw[hres2,zac ⟨hwo,hq⟩,Dv];have HA:=(Bp (n:=name) (j.gG.aG)).aX.aX.aX;exact(uj (p:=⟨p.wh,p.cols++[⟨name,(d9 text).1⟩],p.group⟩) HA).first.turn
    have hwo: ¬wd=O5:=S;refine Zb2 ?_;exact⟨by rw[hres2,zab (λh=>hwo h.1)];rfl,by rw[hres2,zab (λh=>hwo h.1)];exact o8 g⟩
  have l9:nI text=none:=by
    cases hq:nI text with
    | none=>rfl
    | some l=>rw[hq]at i;exact Bool.noConfusion i
  refine Zb4 ?_;exact⟨by rw[hres2,l9];split<;>rfl,by rw[hres2,l9];split<;>exact o8 g⟩
end Go.Proofs.Mw
