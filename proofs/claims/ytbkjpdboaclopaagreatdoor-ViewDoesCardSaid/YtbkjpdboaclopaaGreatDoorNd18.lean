/-
 The program's Check of a plan,walked.
-/
import Derived.Test.YtbkjpdboaclopaaGreatDoorNd17
set_option linter.all false
set_option maxRecDepth 4000
namespace Go.Proofs.Mw
open Go.Lib Go.Proofs.Tryz
attribute [local irreducible] FW FL FG FGn jJ jO fC lJ Qfn Gives
def Ag (g:Int) (i:Nat):Nat:=if 0<=g/\g<i then 1 else 0
def QZ {α:Type} {l:List α} {i:Nat} {o:α} (h:l[i]? =some o):l.drop i=o::l.drop (i+1):=by
 have aX:=fI h;rw[zbn aX];rw[zab aX]at h;injection h with h
 rw[h]
variable {w:Wd}
variable {p:aW} {vc:Value}
theorem aem {cols:List bT} {vp:Value} (hc:aJ w vc aM 7 cols) (hp:fZ w vp p) (Bl:bC p.wh) (yK: ∀o∈p.cols,bC o.steps) (hn:p.cols.length<=1000000) (hT:gT w):
    aQ Tryz.prog 28 [vc,vp] w λv w'=>∃x,v=.tuple #[x,I (aZ cols p).2]/\True/\Turn noB (aU 49 7 aM x (aZ cols p).1) w w':=by
  have eO:=hp;obtain⟨vw,vq,rfl,hw,r,hr,eP⟩:=hp;obtain⟨A,m,rfl,⟨hm,nX⟩,hA⟩:=hr;have yL:=eP.len;have H:=Sep.aH w;obtain⟨res,ak⟩: ∃res,res=aZ cols p:=⟨_,rfl⟩;rw[<-ak];unfold aZ at ak;obtain⟨C,n,rfl,⟨hwn,apE⟩,hC⟩:=id hw;refine bU Tryz.func28 ?_;refine Sr (bB H (cs:=[.slice C p.wh.length n,.slice A r.length m,I p.group]) rfl (h:=λb3 _ k _=>?_));refine Kz (XE (eO.keep k.kept) oM) (λ_ k _=>?_);refine Vv (Gives.not rfl) (Qn ?_);refine Cd rfl (λS=>?_) (λS=>?_)
  . rw[zac (by simpa using S)]at ak
    refine V2 ?_;exact⟨_,by rw[ak];rfl,trivial,by rw[ak];exact(Sep.iW k 49 7 aM).first.turn⟩
  rw[zaa (by simpa using S)]at ak;have apF:p.cols.length<=16:=(rH (by simpa using S)).1.2.1;refine Sk (dB (λ_:Unit=>[(0,vc),(3,av b3)]) (λ_ w'=>res=xM cols p.group 0 p.cols []/\Sep w noB [blk b3 [.slice C p.wh.length n,.slice A r.length m,I p.group] 26] w') ?_ ?_)
  . refine Cz (λS=>?_) (λS=>?_)
    . have iJ:p.wh≠[]:=λe=>by rw[e]at S;exact zas S dC
      refine Kz (MN (hc.keep k.kept) (hw.keep k.kept) Bl (hT.keep k.kept).utf) (λ_ _ _=>?_);refine Az (λb6 _ _ _=>?_);refine Tz (λ_ S=>?_);refine Cz (λa=>?_) (λa=>?_)
      . rw[zac ⟨iJ,a⟩]at ak
        refine V3 ?_;exact⟨_,by rw[ak];rfl,trivial,by rw[ak];exact(Sep.iW S 49 7 aM).first.turn⟩
      rw[zaa (λh=>a h.2)]at ak;refine Cz (λa=>?_) (λa=>?_)
      . rw[zac ⟨iJ,a⟩]at ak
        refine V2 ?_;exact⟨_,by rw[ak];rfl,trivial,by rw[ak];exact(Sep.iW S 49 7 aM).first.turn⟩
      rw[zaa (λh=>a h.2)]at ak;refine V0 ?_;exact au () tR ⟨ak,S.bI⟩
    have he:p.wh=[]:=zbg oM;rw[zaa (λh=>h.1 he),zaa (λh=>h.1 he)]at ak;refine V0 ?_;exact au () tR ⟨ak,k⟩
  rintro _ τ a ⟨hres2,a⟩;refine Lp ?_;refine Az (λb8 _ _ _=>?_);refine Nx (Vv (Gives.makeFunc (fs:=[]) (us:=[]) (cs:=[.tmp 8]) rfl rfl) (V1 ?_));refine Vb (aD iO) ?_;refine Az (λb10 _ _ _=>?_);refine Tz (λa S=>?_);refine V4 ?_
  have k:Mw.Sep w noB [KR b8 [],blk b10 (aD iO) 45,blk b3 [.slice C p.wh.length n,.slice A r.length m,I p.group] 26] a:=by
    have h1:=(Sep.iW (S.aF) 49 7 aM).aF;exact Sep.tY (p:=λv=>star (blk b8 [v] 22) (aU 49 7 aM v [])) _ (Sep.aR h1)
  refine aI (λx:Nat×List bT=>[(0,vc),(3,av b3),(8,av b8),(9,.func (.func 61) #[] #[av b8]),(10,av b10),(40,.slice A r.length m),(41,I r.length),(42,I x.1)]) (λx w'=>(x.1<=r.length/\x.2.length=x.1+Ag p.group x.1/\xM cols p.group x.1 (p.cols.drop x.1) x.2=res)/\Sep w noB [KR b8 x.2,blk b10 (aD iO) 45,blk b3 [.slice C p.wh.length n,.slice A r.length m,I p.group] 26] w') (λx _=>r.length-x.1) (0,[]) tR ⟨⟨zai _,by dsimp only;unfold Ag;rw[zaa oM];rfl,hres2.symm⟩,k⟩ (λx τ _ hI=>?_);obtain⟨i,acc⟩:=x;obtain⟨⟨hi,VE,dK⟩,k⟩:=hI;dsimp only at hi VE dK k;have hai:Ag p.group i<=1:=by unfold Ag;split<;>omega
  have avC:acc.length<=i+1:=oM;refine Lp ?_;refine Cz (λS=>?_) (λS=>?_)
  . have aX:i<p.cols.length:=oM
    obtain⟨vx,hx,CS⟩:=eP.at aX;obtain⟨Ax,cx,rfl,_⟩:=id CS;have qy:p.cols[i]? =some p.cols[i]:=zab aX;obtain⟨o,ho⟩: ∃o,o=p.cols[i]:=⟨_,rfl⟩;rw[<-ho]at hx CS qy;have Mt:=yK o (zag qy);rw[QZ qy,xM]at dK;unfold Ag at VE;refine Az (λb12 _ _ _=>?_);refine Am ?_;refine Tz (λ_ S=>?_);refine Kz (MN (hc.keep S.kept) (CS.keep S.kept) Mt (hT.keep S.kept).utf) (λ_ _ _=>?_);refine Az (λb13 _ _ _=>?_);refine Tz (λ_ S=>?_);refine Cz (λa=>?_) (λa=>?_)
    . rw[zac a]at dK
      refine V3 ?_;exact⟨_,by rw[<-dK];rfl,trivial,by rw[<-dK];exact(Sep.iW S 49 7 aM).first.turn⟩
    rw[zaa a]at dK;refine Sk (dB (λ_:Unit=>[(0,vc),(3,av b3),(8,av b8),(9,.func (.func 61) #[] #[av b8]),(10,av b10),(11,I i),(12,av b12),(13,av b13),(40,.slice A r.length m),(41,I r.length),(42,I i)]) (λ_ w'=>Sep w noB [blk b13 (aD (iM cols o.steps).1) 45,blk b12 (dx (o.name,.slice Ax o.steps.length cx)) 68,KR b8 (if(i:Int)=p.group then acc++[qB ((i:Int)+1) iN iO]else acc),blk b10 (aD iO) 45,blk b3 [.slice C p.wh.length n,.slice A r.length m,I p.group] 26] w') ?_ ?_)
    . refine Cz (λa=>?_) (λa=>?_)
      . have hig:(i:Int)=p.group:=a
        refine V2 ?_;obtain⟨F0,Vs,gQ,aK⟩:=S.focus At2;refine eY (vals:=[str iN,agg (aD iO)]) rfl (y8 iN iO Vs oM) rfl rfl (λv' _ hv=>?_);obtain⟨rfl,cK,F1,hq,iC⟩:=hv;have b:=aK _ F1 _ cK hq iC;rw[zaa oM]at VE;have hid:((acc.length+1:Nat):Int)=(i:Int)+1:=oM;rw[hid]at b;refine V0 ?_;exact au () tR (by rw[zac hig];exact b)
      have hig: ¬(i:Int)=p.group:=a;refine V0 ?_;exact au () tR (by rw[zaa hig];exact S)
    intro _ τ b b;refine Lp ?_;refine Sz (λa=>?_) (λa=>?_)
    . refine Cz (λS=>?_) (λS=>?_)
      . have VF:0<=p.group/\p.group<=i:=⟨oM,S⟩
        rw[zac VF]at dK;refine Cz (λc=>?_) (λc=>?_)
        . rw[zac c]at dK
          refine V2 ?_;exact⟨_,by rw[<-dK];rfl,trivial,by rw[<-dK];exact(Sep.iW b 49 7 aM).first.turn⟩
        rw[zaa c]at dK;refine Tz (λ_ c=>?_);refine V4 ?_;obtain⟨acc2,Y8⟩: ∃acc2,acc2=if(i:Int)=p.group then acc++[qB ((i:Int)+1) iN iO]else acc:=⟨_,rfl⟩
        rw[<-Y8]at c dK
        have ar7:acc2.length=i+1:=by
          rw[Y8]
          split
          . rw[zaa oM]at VE
            rw[zad,zaf];omega
          rw[zac oM]at VE;omega
        have hid:((acc2.length+1:Nat):Int)=(i:Int)+2:=oM;obtain⟨F0,Vs,gQ,aK⟩:=c.focus At2;refine eY (vals:=[str o.name,agg (aD iO)]) rfl (y8 o.name _ Vs oM) rfl rfl (λv' _ hv=>?_);obtain⟨rfl,cK,F1,hq,iC⟩:=hv;have c:=aK _ F1 _ cK hq iC;rw[hid]at c;refine V2 ?_;exact aj (i+1,acc2++[qB ((i:Int)+2) o.name iO]) tR ⟨⟨dO,by dsimp only;rw[zad,zaf];unfold Ag;rw[zac oM];omega,dK⟩,c.bI.bI⟩ dO
      have VF: ¬(0<=p.group/\p.group<=i):=λh=>S h.2;rw[zaa VF]at dK;refine V4 ?_;rw[zaa (show ¬(i:Int)=p.group from λe=>VF ⟨oM,oM⟩)]at b;rw[zaa oM]at VE;have hid:((acc.length+1:Nat):Int)=(i:Int)+1:=oM;obtain⟨F0,Vs,gQ,aK⟩:=b.focus At2;refine eY (vals:=[str o.name,agg (aD (iM cols o.steps).1)]) rfl (y8 o.name _ Vs oM) rfl rfl (λv' _ hv=>?_);obtain⟨rfl,cK,F1,hq,iC⟩:=hv;have c:=aK _ F1 _ cK hq iC;rw[hid]at c;refine V2 ?_;exact aj (i+1,acc++[qB ((i:Int)+1) o.name (iM cols o.steps).1]) tR ⟨⟨dO,by dsimp only;rw[zad,zaf];unfold Ag;rw[zaa oM];omega,dK⟩,c.bI.bI⟩ dO
    have VF: ¬(0<=p.group/\p.group<=i):=λh=>a h.1;rw[zaa VF]at dK;refine V5 ?_;rw[zaa (show ¬(i:Int)=p.group from λe=>VF ⟨oM,oM⟩)]at b;rw[zaa oM]at VE;have hid:((acc.length+1:Nat):Int)=(i:Int)+1:=oM;obtain⟨F0,Vs,gQ,aK⟩:=b.focus At2;refine eY (vals:=[str o.name,agg (aD (iM cols o.steps).1)]) rfl (y8 o.name _ Vs oM) rfl rfl (λv' _ hv=>?_);obtain⟨rfl,cK,F1,hq,iC⟩:=hv;have c:=aK _ F1 _ cK hq iC;rw[hid]at c;refine V2 ?_;exact aj (i+1,acc++[qB ((i:Int)+1) o.name (iM cols o.steps).1]) tR ⟨⟨dO,by dsimp only;rw[zad,zaf];unfold Ag;rw[zaa oM];omega,dK⟩,c.bI.bI⟩ dO
  have jG:i=r.length:=oM;rw[jG,yL,zdz,xM]at dK;rw[jG,yL]at VE;unfold Ag at VE;refine Cz (λc=>?_) (λc=>?_)
  . rw[zac oM]at dK
    rw[zaa oM]at VE;refine V2 ?_;have hid:((acc.length+1:Nat):Int)=p.group+1:=oM;obtain⟨F0,Vs,gQ,aK⟩:=k.focus At0;refine eY (vals:=[str iN,agg (aD iO)]) rfl (y8 iN iO Vs oM) rfl rfl (λv' _ hv=>?_);obtain⟨rfl,cK,F1,hq,iC⟩:=hv;have c:=aK _ F1 _ cK hq iC;rw[hid]at c;refine Nx ?_;have a:=c;unfold KR at a;obtain⟨v8,a⟩:=a.ex0;have a:=a.bE;refine Ld a ?_;refine V2 ?_;exact⟨v8,by rw[<-dK];rfl,trivial,by rw[<-dK];exact a.aF.first.turn⟩
  rw[zaa oM]at dK;refine V0 ?_;have a:=k;unfold KR at a;obtain⟨v8,a⟩:=a.ex0;have a:=a.bE;refine Ld a ?_;refine V2 ?_;exact⟨v8,by rw[<-dK];rfl,trivial,by rw[<-dK];exact a.aF.first.turn⟩
def Ed (sep:UInt8): ∀l:List (L8),l≠[]->iY sep l++[sep]=l.flatMap (· ++[sep])
 | [],h=>zas rfl h
 | [w],_=>by simp[iY]
 | w::x::l,_=>by
  have ih:=Ed sep (x::l) sM;show(w++sep::iY sep (x::l))++[sep]=_
  rw[zbh,<-ih];simp
def Nr {l:List bL} (h:(iQ l).2=0) (hf:bC l):(iQ l).1.length<=400000:=by
 obtain⟨h1,h2,h3⟩:=Nj h;rw[h3]
 have:=Cy 32 (k:=6146) (ws:=l.map gX) λw hw=>by
  obtain⟨x,hxm,rfl⟩:=zar.1 hw;exact YP (h2 x hxm) (hf x hxm)
 rw[zae]at this;show(iY 32 (l.map gX)).length<=_
 omega
def Md {o:nQ}:M9 o=true↔((iQ o.steps).2≠0\/(iQ o.steps).1=[]):=by unfold M9;rw[decide_eq_true_iff]
def Uh (n:Int) (hn:fits n) (hT:gT w):Rk prog 89 [I n] w (str (Lib.itoa n)):=
 Calls.mono (Tryz.strconv_Itoa n hn.1 hn.2 w hT.pow) λe w' he=>by
  obtain⟨rfl,k,os,rfl⟩:=he;exact⟨rfl,QG w k os⟩
variable {v:Value}
def ahb (sep:UInt8) {l:List (L8)} (hr:aJ w v gP 1 l) (hl:l.length<=1000000) (hlen:(iY sep l).length<=140737488355328):Rk prog 92 [v,str [sep]] w (str (iY sep l)):=by
 obtain⟨A,c,rfl,⟨hc,hc'⟩,hR⟩:=hr
 by_cases h0:l=[]
 .subst h0
  exact Calls.mono (Tryz.strings_Join_none A c ⟨#[sep]⟩ w) λe w' he=>by
   obtain⟨rfl,rfl⟩:=he;exact⟨rfl,Kept.refl _ _⟩
 have Y4:0<l.length:=zfj.2 h0;obtain⟨ad,rfl⟩:=hR.addr Y4;obtain⟨x0,hx0⟩:=get_some Y4;obtain⟨ad',e0,hc0⟩:=hR.cell (f:=0) hx0 rfl;injection e0 with e0;subst e0
 have Eu:=World.cell?_spot hc0;obtain⟨bk,o,sp⟩:=ad;have anG:sp=none:=Eu;subst anG
 have hbk:bk<w.heap.size:=by
  refine Classical.byContradiction λhn=>?_;unfold World.cell? at hc0;rw[zdk (by show w.heap.size<=bk;omega)]at hc0;cases hc0
 have Jc:(l.map λs:L8=>(⟨s.toArray⟩:ByteArray)).map (·.data.toList)=l:=by
  rw[zdj];exact(zcr λs _=>rfl).trans (List.map_id l)
 have:=rE (Tryz.strings_Join bk o c (l.map λs=>⟨s.toArray⟩) ⟨#[sep]⟩ w (λj x hj=>by
  rw[zbz]at hj;obtain⟨s,hs,rfl⟩:=zbc.1 hj;obtain⟨ad',e1,hcs⟩:=hR.cell (f:=0) hs rfl;injection e1 with e1;subst e1
  rw[zfd,zfb,Addr.add_lit]at hcs;exact hcs) hbk (by rw[zae];omega) (by rw[zae];exact hc) (by rw[Jc];show(Lib.join l [sep]).length<=_;rw[join_eq];exact hlen))
 rw[Jc,zae]at this;have e:Lib.join l [sep]=iY sep l:=join_eq sep l;rw[<-e];exact this
theorem aen (hp:fZ w v p) (Bl:bC p.wh) (yK: ∀o∈p.cols,bC o.steps) (hn:p.cols.length<=1000000) (hT:gT w):
    Rk prog 52 [v] w (.tuple #[str (KN p).1,I (KN p).2]):=by
  have eO:=hp;obtain⟨vw,vc,rfl,hw,r,hr,eP⟩:=hp;obtain⟨A,m,rfl,⟨hm,nX⟩,hA⟩:=hr;obtain⟨C,n,rfl,⟨hwn,apE⟩,hC⟩:=id hw;have yL:=eP.len;have H:=Sep.aH w;obtain⟨res,ak⟩: ∃res,res=KN p:=⟨_,rfl⟩;rw[<-ak];unfold KN at ak;have mE:DW p≠true->res=([],2):=λh=>by rw[ak,zac (by simpa using h)]
  refine dh func52 ?_;refine Sr (bB H (cs:=[.slice C p.wh.length n,.slice A r.length m,I p.group]) rfl (h:=λb1 w2 H2 k1=>?_));refine Kz (XE (eO.keep H2.kept) hn) (λw7 H7 k6=>?_);refine Vv (Gives.not rfl) (Qn ?_);refine Cd rfl (λhc9=>?_) (λhc9=>?_)
  . have bX:res=([],2):=mE λh=>by have h1:=(rJ.1 h).1;rw[h1]at hc9;cases hc9
    refine V2 ?_;exact⟨by rw[bX];rfl,H7.kept⟩
  have Lm:lC p=true:=by simpa using hc9
  obtain⟨⟨AZ,apF,hg1,Vk⟩,aja⟩:=rH Lm;refine Kz (WK (hw.keep H7.kept) Bl (hT.keep H7.kept)) (λwa Ha ka=>?_);refine Cz (λIe=>?_) (λIe=>?_)
  . have bX:res=([],2):=mE λh=>Ie (rJ.1 h).2.1
    refine V2 ?_;exact⟨by rw[bX];rfl,Ha.kept⟩
  have htw:(iQ p.wh).2=0:=oM;have hwl:=Nr htw Bl;refine Sk (dB (λ_:Unit=>[(1,av b1),(4,str (if p.wh=[]then mK else(iQ p.wh).1))]) (λ_ w'=>Sep w noB [blk b1 [.slice C p.wh.length n,.slice A r.length m,I p.group] 26] w') ?_ ?_)
  . refine Cz (λIf=>?_) (λIf=>?_)
    . have he:p.wh=[]:=zbg oM
      refine V1 ?_;exact au () ⟨rfl,by rw[zac he];rfl,trivial⟩ Ha
    have he: ¬p.wh=[]:=λe=>If (by rw[e];rfl);refine V0 ?_;exact au () ⟨rfl,by rw[zaa he];rfl,trivial⟩ Ha
  intro _ τ wb Hb;have h4n:mK.length=4:=rfl;have hq4:(if p.wh=[]then mK else(iQ p.wh).1).length<=400000:=by split<;>omega
  refine Lp ?_;refine V2 ?_;refine Bs Hb ([xO p.wh].flatMap gP) (λbs wc Hc kb=>?_);have Hc:=aq7 Hc;refine V5 ?_;have Hd:Mw.Sep w noB [aU 9 1 gP (.slice (some ⟨bs,0,none⟩) 1 1) (xO p.wh::(p.cols.take 0).map tZ),blk b1 [.slice C p.wh.length n,.slice A r.length m,I p.group] 26] wc:=Hc;refine aI (λx:Nat×Value=>[(1,av b1),(6,x.2),(31,.slice A r.length m),(32,I r.length),(33,I x.1)]) (λx w'=>(x.1<=r.length/\∀(j:Nat) o,j<x.1->p.cols[j]? =some o->M9 o=false)/\Sep w noB [aU 9 1 gP x.2 (xO p.wh::(p.cols.take x.1).map tZ),blk b1 [.slice C p.wh.length n,.slice A r.length m,I p.group] 26] w') (λx _=>r.length-x.1) (0,_) tR ⟨⟨zai _,λj o hj=>zas hj (zdw j)⟩,Hd⟩ (λx τ wd hI=>?_);obtain⟨i,v0⟩:=x;obtain⟨⟨hi,CQ⟩,Hd⟩:=hI;dsimp only at hi CQ Hd;have Jc:(xO p.wh::(p.cols.take i).map tZ).length=i+1:=by rw[zaq,zae,zah];omega
  refine Lp ?_;refine Cz (λIg=>?_) (λIg=>?_)
  . have aX:i<p.cols.length:=oM
    obtain⟨vx,hx,CS⟩:=eP.at aX;obtain⟨Ax,cx,rfl,_⟩:=id CS;have qy:p.cols[i]? =some p.cols[i]:=zab aX;obtain⟨o,ho⟩: ∃o,o=p.cols[i]:=⟨_,rfl⟩;rw[<-ho]at hx CS qy;have Y9:=zag qy;have yH:xO p.wh::(p.cols.take (i+1)).map tZ=(xO p.wh::(p.cols.take i).map tZ)++[tZ o]:=by rw[zat,qy,zak];rfl
    refine Az (λb8 we He kc=>?_);refine Tz (λwf Hf=>?_);refine Kz (WK (CS.keep Hf.kept) (yK o Y9) (hT.keep Hf.kept)) (λwg Hg kd=>?_);refine Sz (λSa=>?_) (λSa=>?_)
    . have jV:M9 o=true:=Md.2 (.inl Sa)
      refine V3 ?_;have bX:res=([],2):=mE λh=>by have h1:=(rJ.1 h).2.2 o Y9;rw[h1]at jV;cases jV
      exact⟨by rw[bX];rfl,Hg.kept⟩
    refine Cz (λIh=>?_) (λIh=>?_)
    . have jV:M9 o=true:=Md.2 (.inr Ih)
      refine V2 ?_;have bX:res=([],2):=mE λh=>by have h1:=(rJ.1 h).2.2 o Y9;rw[h1]at jV;cases jV
      exact⟨by rw[bX];rfl,Hg.kept⟩
    have fB:M9 o=false:=by
      rw[<-zdq];intro h
      rcases Md.1 h with h | h
      . omega
      exact Ih h
    have hts:(iQ o.steps).2=0:=oM;have avD:=Nr hts (yK o Y9)
    have Mq:o.name.length<=32:=by
      have h5:=aja o Y9;unfold eZ at h5;simp only[zbr,decide_eq_true_eq]at h5;omega
    refine V7 ?_;refine Bs Hg ([tZ o].flatMap gP) (λbs wi Hh ke=>?_);refine dJ Hh (news:=[tZ o]) At1 (by rw[Jc];unfold maxLen;simp;omega) (by rw[Jc];simp;omega) (cells_one (λ_=>rfl) _) (h:=?_);intro v2 wj Hi;rw[<-yH]at Hi;refine V3 ?_;exact aj (i+1,v2) tR ⟨⟨dO,λj y hj hy=>by
    by_cases e:j=i
    . subst e;rw[qy]at hy;injection hy with hy;rw[<-hy];exact fB
    exact CQ j y (by dsimp only at hj;omega) hy⟩,Hi.bI⟩ dO
  have jG:i=r.length:=oM;rw[jG,zaj oM]at Hd Jc
  have jN: ∀o∈p.cols,M9 o=false:=λo ho=>by
    obtain⟨j,hj⟩:=zdd ho;exact CQ j o (by have:=fI hj;omega) hj
  have yI:DW p=true:=rJ.2 ⟨Lm,htw,jN⟩;rw[zaa (by rw[yI];decide)]at ak;refine O1 ?_;refine Qn (dB (λ_:Unit=>[(6,v0),(11,str (if p.group<0 then mK else itoa p.group))]) (λ_ w'=>Sep w noB [aU 9 1 gP v0 (xO p.wh::p.cols.map tZ),blk b1 [.slice C p.wh.length n,.slice A r.length m,I p.group] 26] w') ?_ ?_)
  . refine Cz (λIi=>?_) (λIi=>?_)
    . have hg: ¬p.group<0:=oM
      refine Kz (Uh p.group ⟨oM,oM⟩ (hT.keep Hd.kept)) (λwk Hj kf=>?_);refine V1 ?_;exact au () ⟨rfl,by rw[zaa hg];rfl,trivial⟩ Hj
    have hg:p.group<0:=oM;refine V0 ?_;exact au () ⟨rfl,by rw[zac hg];rfl,trivial⟩ Hd
  intro _ τ wl Hk;have h6:=itoa_length_le p.group oM oM;have hq6:(if p.group<0 then mK else itoa p.group).length<=30:=by split<;>omega
  refine Lp ?_;refine V3 ?_;refine Bs Hk ([yY p.group].flatMap gP) (λbs2 wm Hl kg=>?_);refine dJ Hl (news:=[yY p.group]) At0 (by rw[Jc];unfold maxLen;simp;omega) (by rw[Jc];simp;omega) (cells_one (λ_=>rfl) _) (h:=?_);intro v2 wn Hm;have hlp:(xO p.wh::p.cols.map tZ)++[yY p.group]=lU p:=rfl;rw[hlp]at Hm;have Fw:(lU p).length<=1002:=by unfold lU;rw[zaq,zad,zae,zaf];omega
  have hlj:(iY 10 (lU p)).length<=(400100+1)*(lU p).length:=Cy 10 (k:=400100) λx hx=>by
    unfold lU at hx
    rcases zbb.1 hx with rfl | hx
    . unfold xO Ub
      rw[zad];have h4:mK.length=4:=rfl
      split<;>simp only[zaq,zcd]<;>omega
    rcases zbk.1 hx with hx | hx
    . obtain⟨o,ho,rfl⟩:=zar.1 hx
      have h1:=jN o ho;have h2:(iQ o.steps).2=0:=Classical.byContradiction λh=>by rw[Md.2 (.inl h)]at h1;cases h1
      have h3:=Nr h2 (yK o ho);have h5:=aja o ho;unfold eZ at h5;simp only[zbr,decide_eq_true_eq]at h5;unfold tZ ZW;simp only[zad,zaq,zcd];omega
    rw[zaw]at hx;subst hx;unfold yY M8;rw[zad];have h4:mK.length=4:=rfl;have h6:=itoa_length_le p.group oM oM
    split<;>simp only[zaq,zcd]<;>omega
  refine Kz (ahb 10 (jq Hm At0) oM oM) (λwo Hn kh=>?_);refine V3 ?_;exact⟨by rw[ak];show Value.tuple #[str (iY 10 (lU p)++[10]),I 0]=_;rw[Ed 10 _ (by unfold lU;simp)];rfl,Hn.kept⟩
def Q0:lC p=true↔(1<=p.cols.length/\p.cols.length<=16/\ -1<=p.group/\p.group<=p.cols.length)/\(∀o∈p.cols,eZ o.name=true/\¬(0<=p.group/\o.name=iN))/\(p.cols.map (·.name)).Nodup:=by
 unfold lC;rw[zbr,zbr,decide_eq_true_iff,decide_eq_true_iff,zba,and_assoc];refine and_congr_right λ_=>and_congr_left λ_=>?_;refine forall_congr' λo=>forall_congr' λ_=>?_;rw[zbr,zdi,Bool.and_eq_false_iff,decide_eq_false_iff_not,decide_eq_false_iff_not];exact and_congr_right λ_=>⟨λh ⟨a,b⟩=>h.elim (λh=>h a) λh=>h b,λh=>(Classical.em (0<=p.group)).elim (λa=>.inr λb=>h ⟨a,b⟩) .inl⟩
def qm (h: ¬((1<=p.cols.length/\p.cols.length<=16/\ -1<=p.group/\p.group<=p.cols.length)/\(∀o∈p.cols,eZ o.name=true/\¬(0<=p.group/\o.name=iN))/\(p.cols.map (·.name)).Nodup)):lC p=false:=eq_false_of_ne_true λe=>h (Q0.1 e)
def Ns {l:List nQ}:(l.map (·.name)).Nodup↔∀(a b:Nat) x y,a<b->l[a]? =some x->l[b]? =some y->x.name≠y.name:=by
 unfold List.Nodup;rw[List.pairwise_map,List.pairwise_iff_getElem];constructor
 .intro h a b x y LU hx hy
  obtain⟨ha,rfl⟩:=zax.1 hx;obtain⟨hb,rfl⟩:=zax.1 hy;exact h a b ha hb LU
 intro h a b ha hb LU;exact h a b _ _ LU (zab ha) (zab hb)
def XF (s:L8):Rk prog 109 [str s] w (.bool (eZ s)):=by
 have H:=Sep.aH w
 have jN: ∀(i:Nat) c,s[i]? =some c->nA c=false->eZ s=false:=λi c hc hn=>by
  unfold eZ;have :s.all nA=false:=by rw[List.all_eq_false];exact⟨c,zag hc,by rw[hn];decide⟩
  rw[this,Bool.and_false]
 refine dh func109 ?_;refine Sz (λk=>?_) (λk=>?_)
 .have Vi: ¬(1<=s.length/\s.length<=32):=oM
  refine V2 ?_;exact⟨zay Value.bool (by unfold eZ;rw[zal Vi,zdx,zdx]),H.kept⟩
 refine Cz (λk=>?_) (λk=>?_)
 .have Vi: ¬(1<=s.length/\s.length<=32):=oM
  refine V1 ?_;exact⟨zay Value.bool (by unfold eZ;rw[zal Vi,zdx,zdx]),H.kept⟩
 have Vi:1<=s.length/\s.length<=32:=oM;refine V1 ?_;refine aI (λi:Nat=>[(0,str s),(3,I i)]) (λi w'=>(i<=s.length/\(s.take i).all nA=true/\(0<i->Ua (s.getD 0 0)=true))/\Sep w noB [] w') (λi _=>s.length-i) 0 tR ⟨⟨zai _,sM,λh=>zas h dC⟩,H⟩ (λi τ _ hI=>?_);obtain⟨⟨hi,dK,hfi⟩,k⟩:=hI;refine Lp ?_;refine Cz (λS=>?_) (λS=>?_)
 .have aX:i<s.length:=oM
  obtain⟨c,hc⟩:=get_some aX;have hcd:s.getD i 0=c:=jy hc;have Qk:nA c=true->(s.take (i+1)).all nA=true:=λh=>by rw[zat,hc,zcz,List.all_append,dK,List.all_cons,h];rfl
  have jV: ¬(97<=c.toNat/\c.toNat<=122)->i=0->eZ s=false:=λh e=>by
   unfold eZ;rw[e]at hcd;have :Ua (s.getD 0 0)=false:=by rw[hcd];exact zal h
   rw[this,Bool.and_false,zdx]
  have xE:nA c=(decide (97<=c.toNat/\c.toNat<=122)||decide (c=95)||decide (48<=c.toNat/\c.toNat<=57)):=by unfold nA Ua uh;simp[UInt8.le_iff_toNat_le]
  have h95:c=95↔c.toNat=95:=⟨λh=>by rw[h];rfl,λh=>UInt8.toNat_inj.1 h⟩;refine V2 ?_;refine Vv (Gives.zu rfl rfl aX) ?_;rw[hcd];refine Sz (λS=>?_) (λS=>?_)
  .refine Sz (λS=>?_) (λS=>?_)
   .have Mq: ¬(97<=c.toNat/\c.toNat<=122):=oM
    refine Sz (λS=>?_) (λS=>?_)
    .have ak:=jV Mq oM
     refine V3 ?_;exact⟨by rw[ak];rfl,k.kept⟩
    have hi0: ¬i=0:=oM;refine Sz (λS=>?_) (λS=>?_)
    .have ajb: ¬c=95:=λe=>S (by rw[e];rfl)
     refine Sz (λS=>?_) (λS=>?_)
     .have ak:=jN i c hc (by rw[xE,zal Mq,zal ajb,zal oM];rfl)
      refine V5 ?_;exact⟨by rw[ak];rfl,k.kept⟩
     refine Cz (λS=>?_) (λS=>?_)
     .have ak:=jN i c hc (by rw[xE,zal Mq,zal ajb,zal oM];rfl)
      refine V1 ?_;exact⟨by rw[ak];rfl,k.kept⟩
     have hn:nA c=true:=by rw[xE,zap (show 48<=c.toNat/\c.toNat<=57 from oM)];simp
     refine V3 ?_;exact aj (i+1) tR ⟨⟨oM,Qk hn,λ_=>hfi oM⟩,k⟩ oM
    have hn:nA c=true:=by rw[xE,zap (h95.2 oM)];simp
    refine V6 ?_;exact aj (i+1) tR ⟨⟨oM,Qk hn,λ_=>hfi oM⟩,k⟩ oM
   have hl:97<=c.toNat/\c.toNat<=122:=oM;refine V4 ?_;exact aj (i+1) tR ⟨⟨oM,Qk (by rw[xE,zap hl];simp),λ_=>by
   rcases zef i with e | e
   .rw[e]at hcd;rw[hcd];exact zap hl
   exact hfi e⟩,k⟩ oM
  have Mq: ¬(97<=c.toNat/\c.toNat<=122):=oM;refine Sz (λS=>?_) (λS=>?_)
  .have ak:=jV Mq oM
   refine V3 ?_;exact⟨by rw[ak];rfl,k.kept⟩
  have hi0: ¬i=0:=oM;refine Sz (λS=>?_) (λS=>?_)
  .have ajb: ¬c=95:=λe=>S (by rw[e];rfl)
   refine Sz (λS=>?_) (λS=>?_)
   .have ak:=jN i c hc (by rw[xE,zal Mq,zal ajb,zal oM];rfl)
    refine V5 ?_;exact⟨by rw[ak];rfl,k.kept⟩
   refine Cz (λS=>?_) (λS=>?_)
   .have ak:=jN i c hc (by rw[xE,zal Mq,zal ajb,zal oM];rfl)
    refine V1 ?_;exact⟨by rw[ak];rfl,k.kept⟩
   have hn:nA c=true:=by rw[xE,zap (show 48<=c.toNat/\c.toNat<=57 from oM)];simp
   refine V3 ?_;exact aj (i+1) tR ⟨⟨oM,Qk hn,λ_=>hfi oM⟩,k⟩ oM
  have hn:nA c=true:=by rw[xE,zap (h95.2 oM)];simp
  refine V6 ?_;exact aj (i+1) tR ⟨⟨oM,Qk hn,λ_=>hfi oM⟩,k⟩ oM
 have jG:i=s.length:=oM;rw[jG,zbq]at dK;refine V1 ?_;exact⟨zay Value.bool (by unfold eZ;rw[zap Vi,hfi oM,dK];rfl),k.kept⟩
theorem aeo (hp:fZ w v p):Rk prog 64 [v] w (.bool (lC p)):=by
 obtain⟨vw,vc,rfl,hw,r,hr,eP⟩:=hp;obtain⟨A,m,rfl,⟨hm,nX⟩,hA⟩:=hr;have yL:=eP.len;have H:=Sep.aH w;refine dh func64 ?_;refine Sr (bB H (cs:=[vw,.slice A r.length m,I p.group]) rfl (h:=λb1 w2 H2 k1=>?_));refine Sz (λSa=>?_) (λSa=>?_)
 .have ak:lC p=false:=qm λh=>oM
  refine V6 ?_;exact⟨by rw[ak];rfl,H2.kept⟩
 refine Sz (λSb=>?_) (λSb=>?_)
 .have ak:lC p=false:=qm λh=>oM
  refine V4 ?_;exact⟨by rw[ak];rfl,H2.kept⟩
 refine Sz (λSc=>?_) (λSc=>?_)
 .have ak:lC p=false:=qm λh=>oM
  refine V2 ?_;exact⟨by rw[ak];rfl,H2.kept⟩
 refine Cz (λIe=>?_) (λIe=>?_)
 .have ak:lC p=false:=qm λh=>oM
  refine V1 ?_;exact⟨by rw[ak];rfl,H2.kept⟩
 have Vi:1<=p.cols.length/\p.cols.length<=16/\ -1<=p.group/\p.group<=p.cols.length:=oM;refine V1 ?_;refine aI (λi:Nat=>[(1,av b1),(3,I r.length),(4,I i)]) (λi w'=>(i<=p.cols.length/\(∀(a:Nat) x,a<i->p.cols[a]? =some x->eZ x.name=true/\¬(0<=p.group/\x.name=iN))/\∀(a b:Nat) x y,a<b->b<i->p.cols[a]? =some x->p.cols[b]? =some y->x.name≠y.name)/\Sep w noB [blk b1 [vw,.slice A r.length m,I p.group] 26] w') (λi _=>p.cols.length-i) 0 tR ⟨⟨zai _,λa x h=>oM,λa b x y _ h=>oM⟩,H2⟩ (λi τ wa hI=>?_);obtain⟨⟨hi,hg,hd⟩,Ha⟩:=hI;refine Lp ?_;refine Cz (λIf=>?_) (λIf=>?_)
 .have aX:i<p.cols.length:=oM
  obtain⟨vx,hx,CS⟩:=eP.at aX;have qy:p.cols[i]? =some p.cols[i]:=zab aX;obtain⟨o,ho⟩: ∃o,o=p.cols[i]:=⟨_,rfl⟩;rw[<-ho]at hx CS qy;have hom:=zag qy;refine Kz (XF o.name) (λwb Hb ka=>?_);refine Vv (Gives.not rfl) (Mv ?_);refine dL (t:=39) rfl (λSd=>?_) (λSd=>?_)
  .have ak:lC p=false:=qm λh=>by rw[(h.2.1 o hom).1]at Sd;exact zas Sd dC
   refine V2 ?_;exact⟨by rw[ak];rfl,Hb.kept⟩
  have Lm:eZ o.name=true:=by simpa using Sd
  refine Sz (λSe=>?_) (λSe=>?_)
  .refine Cz (λIg=>?_) (λIg=>?_)
   .have ak:lC p=false:=qm λh=>(h.2.1 o hom).2 ⟨oM,Ig⟩
    refine V1 ?_;exact⟨by rw[ak];rfl,Hb.kept⟩
   have hgo: ¬(0<=p.group/\o.name=iN):=λh=>Ig h.2;refine V1 ?_;refine aI (λk:Nat=>[(1,av b1),(3,I r.length),(4,I i),(5,I k)]) (λk w'=>(k<=i/\∀(a:Nat) x,a<k->p.cols[a]? =some x->x.name≠o.name)/\Sep w noB [blk b1 [vw,.slice A r.length m,I p.group] 26] w') (λk _=>i-k) 0 tR ⟨⟨zai _,λa x h=>oM⟩,Hb⟩ (λk τ wc hI=>?_);obtain⟨⟨hk,hdk⟩,Hc⟩:=hI;refine Lp ?_;refine Cz (λIh=>?_) (λIh=>?_)
   .have hkt:k<i:=oM
    obtain⟨vy,hy,hsy⟩:=eP.at (show k<p.cols.length from oM);have hpk:p.cols[k]? =some (p.cols[k]'oM):=zab oM;obtain⟨u,hu⟩: ∃u,u=p.cols[k]'oM:=⟨_,rfl⟩;rw[<-hu]at hy hsy hpk;refine Dz (λSf wd Hd=>?_);refine V5 ?_;refine Gl Sf 5 rfl rfl (Gives.dG (i:=k) (f:=0) rfl Hd hA hy rfl) (V5 ?_);refine Gl Sf 11 rfl rfl (Gives.dG (i:=i) (f:=0) rfl Hd hA hx rfl) (O1 ?_);refine fO Sf kR ?_;refine Cz (λIi=>?_) (λIi=>?_)
    .have ak:lC p=false:=qm λh=>Ns.1 h.2.2 k i u o hkt hpk qy Ii
     refine V1 ?_;exact⟨by rw[ak];rfl,Hd.kept⟩
    refine V3 ?_;exact aj (k+1) tR ⟨⟨oM,λa x ha pG=>by
    rcases zee.1 ha with e | e
    .exact hdk a x e pG
    subst e;rw[hpk]at pG;injection pG with pG;rw[<-pG];assumption⟩,Hd⟩ oM
   have LX:k=i:=oM;refine V3 ?_;exact aj (i+1) tR ⟨⟨oM,λa x ha pG=>by
   rcases zee.1 ha with e | e
   .exact hg a x e pG
   .subst e;rw[qy]at pG;injection pG with pG;rw[<-pG];exact⟨Lm,hgo⟩,λa b x y LU hb pG Fy=>by
   rcases zee.1 hb with e | e
   .exact hd a b x y LU e pG Fy
   subst e;rw[qy]at Fy;injection Fy with Fy;rw[<-Fy];exact hdk a x oM pG⟩,Hc⟩ oM
  have hgo: ¬(0<=p.group/\o.name=iN):=λh=>Se h.1;refine V3 ?_;refine aI (λk:Nat=>[(1,av b1),(3,I r.length),(4,I i),(5,I k)]) (λk w'=>(k<=i/\∀(a:Nat) x,a<k->p.cols[a]? =some x->x.name≠o.name)/\Sep w noB [blk b1 [vw,.slice A r.length m,I p.group] 26] w') (λk _=>i-k) 0 tR ⟨⟨zai _,λa x h=>oM⟩,Hb⟩ (λk τ we hI=>?_);obtain⟨⟨hk,hdk⟩,He⟩:=hI;refine Lp ?_;refine Cz (λIj=>?_) (λIj=>?_)
  .have hkt:k<i:=oM
   obtain⟨vy,hy,hsy⟩:=eP.at (show k<p.cols.length from oM);have hpk:p.cols[k]? =some (p.cols[k]'oM):=zab oM;obtain⟨u,hu⟩: ∃u,u=p.cols[k]'oM:=⟨_,rfl⟩;rw[<-hu]at hy hsy hpk;refine Dz (λSg wf Hf=>?_);refine V5 ?_;refine Gl Sg 5 rfl rfl (Gives.dG (i:=k) (f:=0) rfl Hf hA hy rfl) (V5 ?_);refine Gl Sg 11 rfl rfl (Gives.dG (i:=i) (f:=0) rfl Hf hA hx rfl) (O1 ?_);refine fO Sg kR ?_;refine Cz (λIk=>?_) (λIk=>?_)
   .have ak:lC p=false:=qm λh=>Ns.1 h.2.2 k i u o hkt hpk qy Ik
    refine V1 ?_;exact⟨by rw[ak];rfl,Hf.kept⟩
   refine V3 ?_;exact aj (k+1) tR ⟨⟨oM,λa x ha pG=>by
   rcases zee.1 ha with e | e
   .exact hdk a x e pG
   subst e;rw[hpk]at pG;injection pG with pG;rw[<-pG];assumption⟩,Hf⟩ oM
  have LX:k=i:=oM;refine V3 ?_;exact aj (i+1) tR ⟨⟨oM,λa x ha pG=>by
  rcases zee.1 ha with e | e
  .exact hg a x e pG
  .subst e;rw[qy]at pG;injection pG with pG;rw[<-pG];exact⟨Lm,hgo⟩,λa b x y LU hb pG Fy=>by
  rcases zee.1 hb with e | e
  .exact hd a b x y LU e pG Fy
  subst e;rw[qy]at Fy;injection Fy with Fy;rw[<-Fy];exact hdk a x oM pG⟩,He⟩ oM
 have jG:i=p.cols.length:=oM;refine V1 ?_;exact⟨zay Value.bool (Eq.symm (Q0.2 ⟨Vi,λo ho=>by
 obtain⟨a,ha⟩:=List.mem_iff_getElem?.1 ho;exact hg a o (by have:=(zax.1 ha).1;omega) ha,Ns.2 λa b x y LU pG Fy=>hd a b x y LU (by have:=(zax.1 Fy).1;omega) pG Fy⟩)),Ha.kept⟩
def sJ (id:Int) (name:L8) (t:bR):Rk prog 66 [I id,str name,agg (aD t)] w (agg (aM (qB id name t))):=by
 have H:=Sep.aH w;refine AJ func66 ?_;refine Sr (bB H (cs:=aD t) rfl (h:=λb5 _ _ _=>?_));refine Az (λb6 _ _ _=>?_);refine Dz (λk _ S=>?_);refine V4 ?_;refine dA k 4 [(2,false),(1,true),(0,true)] S (aiO t) (h:=λ_ S _=>⟨(bQ rfl kR (Gives.Ky rfl (S.obj At1) (us:=aD t) rfl rfl) rfl (ay (ay (eF)))),?_⟩);refine Gp k 5 rfl rfl (λ_=>(Gives.build (out:=aM (qB id name t)) (Fills.one rfl rfl rfl sM rfl (Fills.one rfl rfl rfl sM rfl (Fills.many rfl rfl (zbe rfl) rfl (Fills.many rfl rfl (zbe rfl) rfl Fills.nil)))))) (bM k 6 _ S (h:=λ_ S=>⟨sT,?_⟩));refine V0 ?_;exact⟨_,fG S,rfl,S.kept⟩
theorem aep {cols:List bT} {vp:Value} (hc:aJ w vc aM 7 cols) (hp:fZ w vp p):
    aQ prog 32 [vc,vp] w λv w'=>∃x,v=.tuple #[x,I (aZ cols p).2]/\True/\Turn noB (aU 49 7 aM x (aZ cols p).1) w w':=by
  have eO:=hp;obtain⟨vw,vq,rfl,hw,r,hr,eP⟩:=hp;obtain⟨A,m,rfl,⟨hm,nX⟩,hA⟩:=hr;have yL:=eP.len;have H:=Sep.aH w;obtain⟨res,ak⟩: ∃res,res=aZ cols p:=⟨_,rfl⟩;rw[<-ak];unfold aZ at ak;obtain⟨C,n,rfl,⟨hwn,apE⟩,hC⟩:=id hw;refine bU func32 ?_;refine Sr (bB H (cs:=[.slice C p.wh.length n,.slice A r.length m,I p.group]) rfl (h:=λb3 _ k _=>?_));refine Kz (aeo (eO.keep k.kept)) (λ_ k _=>?_);refine Vv (Gives.not rfl) (Qn ?_);refine Cd rfl (λS=>?_) (λS=>?_)
  . rw[zac (by simpa using S)]at ak
    refine V2 ?_;exact⟨_,by rw[ak];rfl,trivial,by rw[ak];exact(Sep.iW k 49 7 aM).first.turn⟩
  rw[zaa (by simpa using S)]at ak;have apF:p.cols.length<=16:=(rH (by simpa using S)).1.2.1;refine Sk (dB (λ_:Unit=>[(0,vc),(3,av b3)]) (λ_ w'=>res=xM cols p.group 0 p.cols []/\Sep w noB [blk b3 [.slice C p.wh.length n,.slice A r.length m,I p.group] 26] w') ?_ ?_)
  . refine Cz (λS=>?_) (λS=>?_)
    . have iJ:p.wh≠[]:=λe=>by rw[e]at S;exact zas S dC
      refine Kz (Km (hc.keep k.kept) (hw.keep k.kept)) (λ_ _ _=>?_);refine Az (λb6 _ _ _=>?_);refine Tz (λ_ S=>?_);refine Cz (λa=>?_) (λa=>?_)
      . rw[zac ⟨iJ,a⟩]at ak
        refine V3 ?_;exact⟨_,by rw[ak];rfl,trivial,by rw[ak];exact(Sep.iW S 49 7 aM).first.turn⟩
      rw[zaa (λh=>a h.2)]at ak;refine Cz (λa=>?_) (λa=>?_)
      . rw[zac ⟨iJ,a⟩]at ak
        refine V2 ?_;exact⟨_,by rw[ak];rfl,trivial,by rw[ak];exact(Sep.iW S 49 7 aM).first.turn⟩
      rw[zaa (λh=>a h.2)]at ak;refine V0 ?_;exact au () tR ⟨ak,S.bI⟩
    have he:p.wh=[]:=zbg oM;rw[zaa (λh=>h.1 he),zaa (λh=>h.1 he)]at ak;refine V0 ?_;exact au () tR ⟨ak,k⟩
  rintro _ τ a ⟨hres2,a⟩;refine Lp ?_;refine Sr (Vb (aD iO) ?_);refine Az (λb8 _ _ _=>?_);refine Tz (λ_ a=>?_);refine V2 ?_;have S:=Sep.iW a 49 7 aM;refine aI (λx:Nat×List bT×Value=>[(0,vc),(3,av b3),(8,av b8),(9,x.2.2),(10,I x.1)]) (λx w'=>(x.1<=r.length/\x.2.1.length<=2*x.1/\xM cols p.group x.1 (p.cols.drop x.1) x.2.1=res)/\Sep w noB [aU 49 7 aM x.2.2 x.2.1,blk b8 (aD iO) 45,blk b3 [.slice C p.wh.length n,.slice A r.length m,I p.group] 26] w') (λx _=>r.length-x.1) (0,[],.slice none 0 0) tR ⟨⟨zai _,dC,hres2.symm⟩,S⟩ (λx τ _ hI=>?_);obtain⟨i,acc,v0⟩:=x;obtain⟨⟨hi,VE,dK⟩,S⟩:=hI;dsimp only at hi VE dK S;refine Lp ?_;refine Cz (λa=>?_) (λa=>?_)
  . have aX:i<p.cols.length:=oM
    obtain⟨vx,hx,CS⟩:=eP.at aX;have qy:p.cols[i]? =some p.cols[i]:=zab aX;obtain⟨o,ho⟩: ∃o,o=p.cols[i]:=⟨_,rfl⟩;rw[<-ho]at hx CS qy;rw[QZ qy,xM]at dK;refine Kz (Km (hc.keep S.kept) (CS.keep S.kept)) (λ_ _ _=>?_);refine Az (λb11 _ _ _=>?_);refine Tz (λ_ a=>?_);refine Cz (λk=>?_) (λk=>?_)
    . rw[zac k]at dK
      refine V3 ?_;exact⟨_,by rw[<-dK];rfl,trivial,by rw[<-dK];exact(Sep.iW a 49 7 aM).first.turn⟩
    rw[zaa k]at dK;refine Sk (dB (λz:Value=>[(0,vc),(3,av b3),(8,av b8),(9,z),(10,I i),(11,av b11)]) (λz w'=>Sep w noB [aU 49 7 aM z (if(i:Int)=p.group then acc++[qB ((i:Int)+1) iN iO]else acc),blk b11 (aD (iM cols o.steps).1) 45,blk b8 (aD iO) 45,blk b3 [.slice C p.wh.length n,.slice A r.length m,I p.group] 26] w') ?_ ?_)
    . refine Sz (λk=>?_) (λk=>?_)
      . refine Cz (λb=>?_) (λb=>?_)
        . have hig:(i:Int)=p.group:=b
          refine V2 ?_;refine Vc ((i:Int)+1) ?_;refine Kz (sJ ((i:Int)+1) iN iO) (λ_ c _=>?_);refine Bs c ([qB ((i:Int)+1) iN iO].flatMap aM) (λbs _ c _=>?_);refine dJ c (news:=[qB ((i:Int)+1) iN iO]) At1 (by unfold maxLen;simp;omega) (by simp;omega) (cells_one (λ_=>rfl) _) (h:=?_);intro v2 c c;refine V1 ?_;exact au v2 tR (by rw[zac hig];exact c.aF)
        have hig: ¬(i:Int)=p.group:=b;refine V0 ?_;exact au v0 tR (by rw[zaa hig];exact a.aF)
      have hig: ¬(i:Int)=p.group:=λe=>k oM;refine V1 ?_;exact au v0 tR (by rw[zaa hig];exact a.aF)
    intro v1 τ c c;refine Lp ?_;refine Sz (λb=>?_) (λb=>?_)
    . have VF: ¬(0<=p.group/\p.group<=i):=λh=>oM
      rw[zaa VF]at dK;refine Dz (λb _ k=>?_);refine V2 ?_;refine Gc b 2 ((i:Int)+1) ?_;refine V7 ?_;have anM: ¬(i:Int)=p.group:=λe=>VF ⟨oM,oM⟩;rw[zaa anM]at k;refine dA b 10 _ k (sJ ((i:Int)+1) o.name (iM cols o.steps).1) (h:=λ_ k _=>⟨sT,?_⟩);refine Gz b 11 _ k ([qB ((i:Int)+1) o.name (iM cols o.steps).1].flatMap aM) (h:=λbs _ k=>⟨sT,?_⟩);refine gH b 12 _ k (news:=[qB ((i:Int)+1) o.name (iM cols o.steps).1]) At0 (by unfold maxLen;simp;omega) (by simp;omega) (cells_one (λ_=>rfl) _) (h:=λv3 _ k=>⟨sT,?_⟩);refine tq b 13 _ (h:=⟨sT,?_⟩);refine V3 ?_;exact aj (i+1,acc++[qB ((i:Int)+1) o.name (iM cols o.steps).1],v3) tR ⟨⟨dO,by dsimp only;rw[zad,zaf];omega,dK⟩,k.aF.bI⟩ dO
    refine Cz (λk=>?_) (λk=>?_)
    . have VF: ¬(0<=p.group/\p.group<=i):=λh=>oM
      rw[zaa VF]at dK;refine Dz (λk _ b=>?_);refine V2 ?_;refine Gc k 2 ((i:Int)+1) ?_;refine V7 ?_;have anM: ¬(i:Int)=p.group:=λe=>VF ⟨oM,oM⟩;rw[zaa anM]at b;refine dA k 10 _ b (sJ ((i:Int)+1) o.name (iM cols o.steps).1) (h:=λ_ b _=>⟨sT,?_⟩);refine Gz k 11 _ b ([qB ((i:Int)+1) o.name (iM cols o.steps).1].flatMap aM) (h:=λbs _ b=>⟨sT,?_⟩);refine gH k 12 _ b (news:=[qB ((i:Int)+1) o.name (iM cols o.steps).1]) At0 (by unfold maxLen;simp;omega) (by simp;omega) (cells_one (λ_=>rfl) _) (h:=λv3 _ b=>⟨sT,?_⟩);refine tq k 13 _ (h:=⟨sT,?_⟩);refine V3 ?_;exact aj (i+1,acc++[qB ((i:Int)+1) o.name (iM cols o.steps).1],v3) tR ⟨⟨dO,by dsimp only;rw[zad,zaf];omega,dK⟩,b.aF.bI⟩ dO
    have VF:0<=p.group/\p.group<=i:=oM;rw[zac VF]at dK;refine Cz (λb=>?_) (λb=>?_)
    . rw[zac b]at dK
      refine V2 ?_;exact⟨_,by rw[<-dK];rfl,trivial,by rw[<-dK];exact(Sep.iW c 49 7 aM).first.turn⟩
    rw[zaa b]at dK;obtain⟨acc2,Y8⟩: ∃acc2,acc2=if(i:Int)=p.group then acc++[qB ((i:Int)+1) iN iO]else acc:=⟨_,rfl⟩
    rw[<-Y8]at c dK
    have ar7:acc2.length<=2*i+1:=by
      rw[Y8]
      split
      . rw[zad,zaf];omega
      omega
    refine Dz (λb _ c=>?_);refine V2 ?_;refine Gc b 2 ((i:Int)+2) ?_;refine V7 ?_;refine dA b 10 _ c (sJ ((i:Int)+2) o.name iO) (h:=λ_ c _=>⟨sT,?_⟩);refine Gz b 11 _ c ([qB ((i:Int)+2) o.name iO].flatMap aM) (h:=λbs _ c=>⟨sT,?_⟩);refine gH b 12 _ c (news:=[qB ((i:Int)+2) o.name iO]) At0 (by unfold maxLen;simp;omega) (by simp;omega) (cells_one (λ_=>rfl) _) (h:=λv3 _ c=>⟨sT,?_⟩);refine tq b 13 _ (h:=⟨sT,?_⟩);refine V3 ?_;exact aj (i+1,acc2++[qB ((i:Int)+2) o.name iO],v3) tR ⟨⟨dO,by dsimp only;rw[zad,zaf];omega,dK⟩,c.aF.bI⟩ dO
  have jG:i=r.length:=oM;rw[jG,yL,zdz,xM]at dK;refine Cz (λc=>?_) (λc=>?_)
  . rw[zac oM]at dK
    refine V3 ?_;refine Vc (p.group+1) ?_;refine Kz (sJ (p.group+1) iN iO) (λ_ c _=>?_);refine Bs c ([qB (p.group+1) iN iO].flatMap aM) (λbs _ c _=>?_);refine dJ c (news:=[qB (p.group+1) iN iO]) At0 (by unfold maxLen;simp;omega) (by simp;omega) (cells_one (λ_=>rfl) _) (h:=?_);intro v2 c c;refine V4 ?_;exact⟨v2,by rw[<-dK];rfl,trivial,by rw[<-dK];exact c.first.turn⟩
  rw[zaa oM]at dK;refine V3 ?_;exact⟨v0,by rw[<-dK];rfl,trivial,by rw[<-dK];exact S.first.turn⟩
def Q5: ∀s:L8,Lib.index s [32]=match s.idxOf? 32 with | some i=>(i:Int) | none=> -1
 | []=>rfl
 | c::t=>by
  have ih:=Q5 t
  by_cases h:c=32
  .subst h
   have e:List.idxOf? 32 (32::t)=some 0:=by unfold List.idxOf?;rw[List.findIdx?_cons];rfl
   rw[MU,e];rfl
  have hb:(c==32)=false:=by simpa using h
  have e:List.idxOf? 32 (c::t)=(List.idxOf? 32 t).map (· +1):=by unfold List.idxOf?;rw[List.findIdx?_cons,hb];rfl
  rw[KF h,ih,e];cases List.idxOf? 32 t with
  | none=>rfl
  | some i=>
   show(if(i:Int)= -1 then(-1:Int)else(i:Int)+1)=((i+1:Nat):Int)
   rw[zaa oM];omega
def aj9 (s:L8):(Lib.cut s [32]).1=(jR s).1/\(Lib.cut s [32]).2.1=(jR s).2:=by
 unfold Lib.cut jR zZ;rw[Q5];cases h:s.idxOf? 32 with
 | none=>simp
 | some i=>simp
def Q6 (s:L8):(jR s).1.length<=s.length/\(jR s).2.length<=s.length:=by
 unfold jR;cases h:zZ s with
 | none=>simp
 | some x=>
  obtain⟨a,b⟩:=x;have:=ag4 h;rw[this];simp only[zdg,zad];omega
def XG {n:L8} (hv:v.oneCell'=true): ∀u∈[(n,v)].flatMap dx,u.oneCell'=true:=λu hu=>by
 simp only[zbh,zfm,zbt,dx,zbb,zam,or_false]at hu
 rcases hu with rfl | rfl
 .rfl
 exact hv
def aer {l:L8} {v:Int} (h:atoiAll l=.ok v):fits v:=atoiAll_bounds h
def KS (b:Nat) (p:aW) (st:Int):HP:=exH λx:Value×Value×List (L8×Value)=>je [blk b [x.1,x.2.1,I p.group,I st] 109,F9 x.1 aN 3 p.wh,aU 68 2 dx x.2.1 x.2.2,Bb x.2.2 p.cols]
def aoT (b:Nat):Option (aW×Int)->HP
 | some r=>KS b r.1 r.2
 | none=>emp
variable {w0:Wd} {S:NP} {rs:List HP}
variable {b:Nat} {st:Int}
def uL {p:aW} {vw:Value} {r:List (L8×Value)} (H:Mw.Sep w0 S (blk b [vw,vc,I p.group,I st] 109::F9 vw aN 3 p.wh::aU 68 2 dx vc r::Bb r p.cols::rs) w):Mw.Sep w0 S (KS b p st::rs) w:=
 Sep.tY (p:=λx:Value×Value×List (L8×Value)=>je [blk b [x.1,x.2.1,I p.group,I st] 109,F9 x.1 aN 3 p.wh,aU 68 2 dx x.2.1 x.2.2,Bb x.2.2 p.cols]) (vw,vc,r) (Sep.bundle (l:=[_,_,_,_]) H)
def Nt (H:Mw.Sep w0 S (KS b p st::rs) w): ∃vw vc r,Mw.Sep w0 S (blk b [vw,vc,I p.group,I st] 109::F9 vw aN 3 p.wh::aU 68 2 dx vc r::Bb r p.cols::rs) w:=by
 unfold KS at H;obtain⟨⟨vw,vc,r⟩,H⟩:=H.ex0;exact⟨vw,vc,r,Sep.parts H⟩
def pJ {F:NP} (H:Mw.Sep w0 F rs w):Turn F emp w0 w:=(Sep.jP (φ:=True) trivial H).first.turn
def ahc (s:L8) (hl:s.length<=1048576) (hT:gT w):aQ prog 86 [str s,str [32]] w λv w'=>(∃b,v=.tuple #[str (jR s).1,str (jR s).2,.bool b])/\Kept noB w w':=by
 obtain⟨m,hm⟩:=hT.len;have hs:(⟨s.toArray⟩:ByteArray).size=s.length:=Mw.size_mk s
 exact Calls.mono (Tryz.strings_Cut ⟨s.toArray⟩ ⟨#[32]⟩ m w (by rw[hs];omega) hm) λe w' he=>by
  obtain⟨rfl,n,rfl⟩:=he;obtain⟨h1,h2⟩:=aj9 s;refine⟨⟨(Lib.cut s [32]).2.2,?_⟩,(Kept.refl noB w).aoB _⟩;show Value.tuple #[str (Lib.cut s [32]).1,str (Lib.cut s [32]).2.1,.bool (Lib.cut s [32]).2.2]=_
  rw[h1,h2]
def akb (t:L8) (hl:t.length<=1048576) (hT:gT w):aQ prog 88 [str t] w λv w'=>(∃n e b,v=.tuple #[I n,e]/\IsNil e b/\(b=true->atoiAll t=.ok n)/\(b=false->∀m,atoiAll t≠ .ok m))/\Kept noB w w':=by
 have hs:(⟨t.toArray⟩:ByteArray).size=t.length:=Mw.size_mk t;cases h:atoiAll t
 .rename_i v
  exact Calls.mono (Tryz.strconv_Atoi_ok ⟨t.toArray⟩ (by rw[hs];omega) v h w) λe w' he=>by
   obtain⟨rfl,hw⟩:=he;refine⟨⟨v,.nilIface,true,rfl,.inl ⟨rfl,rfl⟩,λ_=>rfl,λhf=>by cases hf⟩,?_⟩
   rcases hw with rfl | ⟨t,rfl⟩
   .exact Kept.refl _ _
   exact Kept.of_below (Lib.bytesWorld_below _ _ _)
 .skip
  obtain⟨tp,p,hv⟩:=hT.syn
  exact Calls.mono (Tryz.strconv_Atoi_syntax_var ⟨t.toArray⟩ (by rw[hs];omega) h rfl tp p w hv) λe w' he=>by
   obtain⟨N,rfl,_,_,hb⟩:=he;exact⟨⟨_,_,false,rfl,.inr ⟨rfl,_,_,rfl⟩,(λhf=>by cases hf),λ_ m hm=>by cases hm⟩,Kept.of_below hb⟩
 skip;obtain⟨tp,p,hv⟩:=hT.ran
 exact Calls.mono (Tryz.strconv_Atoi_range_var ⟨t.toArray⟩ (by rw[hs];omega) h tp p w hv) λe w' he=>by
  obtain⟨N,rfl,_,_,hb⟩:=he;exact⟨⟨_,_,false,rfl,.inr ⟨rfl,_,_,rfl⟩,(λhf=>by cases hf),λ_ m hm=>by cases hm⟩,Kept.of_below hb⟩
def Q7 (t:L8) (hl:t.length<=1000000) (hT:gT w):aQ prog 87 [str t] w λv w'=>∃x,v=.tuple #[x,.bool (nR t).isSome]/\True/\Turn noB (aU 66 3 aN x (eD t).1) w w':=by
 have H:=Sep.aH w;obtain⟨res,ak⟩: ∃res,res=(nR t).isSome:=⟨_,rfl⟩;rw[<-ak];unfold nR at ak;refine dh func87 ?_;refine Nz (ad1 t (.inl hl) oM (hT.keep H.kept)) (λx _ _ k _=>?_);obtain⟨B,cb,rfl,Pv,hB⟩:=Sep.bH k At0;refine Sz (λS=>?_) (λS=>?_)
 .have he:(eD t).2=0:=S
  refine V6 ?_;exact⟨_,by first | (rw[ak];rfl) | (rw[ak];by_cases hq:(eD t).1=[]<;>simp[hq,he,fJ,zfj]),trivial,k.turn⟩
 rw[zaa (λh=>S h.1)]at ak;refine V3 ?_;exact⟨_,by first | (rw[ak];rfl) | (rw[ak];by_cases hq:(eD t).1=[]<;>simp[hq,he,fJ,zfj]),trivial,k.turn⟩
theorem akc {F:NP} (s:L8) (hp:(KS b p st).ok F w) (dK:st=0\/st=1\/st=2\/st=3) (hl:s.length<=1000000) (hn:p.cols.length<=1000000) (hT: ∀w',Kept F w w'->gT w'):
    aQ prog 51 [av b,str s] w λv w'=>v=.bool (jS p st s).isSome/\Turn F (aoT b (jS p st s)) w w':=by
  obtain⟨vw,vc,r,H⟩:=Nt (Sep.bW hp);obtain⟨res,ak⟩: ∃res,res=jS p st s:=⟨_,rfl⟩;rw[<-ak];unfold jS at ak;obtain⟨wd,hwd⟩: ∃wd,wd=(jR s).1:=⟨_,rfl⟩;obtain⟨rest,Ja⟩: ∃rest,rest=(jR s).2:=⟨_,rfl⟩;have yL:rest.length<=1000000:=by have:=(Q6 s).2;rw[Ja];omega
  rw[<-hwd,<-Ja]at ak;obtain⟨A,ca,rfl,hca,hA⟩:=Sep.bH H At2;have eP:pI w r p.cols:=Sep.sees H At3;have hrn:=eP.len
  have hvw: ∃A c,vw=.slice A p.wh.length c:=by
    obtain⟨A,c,e,_⟩:=(Sep.sees H At1:aJ w vw aN 3 p.wh);exact⟨A,c,e⟩
  obtain⟨Aw,cw,rfl⟩:=hvw;refine bU func51 ?_;refine V2 ?_;refine aL (ahc s oM (hT _ H.kept)) rfl rfl (λv' _ hv=>?_);obtain⟨⟨b7,rfl⟩,cK⟩:=hv;have S:=H.keep cK;rw[<-hwd,<-Ja];refine O11 ?_;refine Qn (uS (dB (λ_:Unit=>[(0,av b),(5,str wd),(6,str rest)]) (λ_ w'=>(res=(aac s).map λo=>(⟨p.wh,p.cols++[o],p.group⟩,2))/\Sep w F [blk b [.slice Aw p.wh.length cw,.slice A r.length ca,I p.group,I st] 109,F9 (.slice Aw p.wh.length cw) aN 3 p.wh,aU 68 2 dx (.slice A r.length ca) r,Bb r p.cols] w') ?_ ?_))
  . refine Cz (λa=>?_) (λa=>?_)
    . rw[zac a]at ak
      refine Uz (λ_ d=>?_);refine Sz (λf=>?_) (λf=>?_)
      . have Bn: ¬wd=BJ:=f
        rw[zaa Bn]at ak;refine V4 ?_;exact⟨by rw[ak];exact zay Value.bool (zal Bn),by rw[ak];exact pJ d⟩
      have Bn:wd=BJ:=zcq.1 f;rw[zac Bn]at ak;refine Cz (λf=>?_) (λf=>?_)
      . have Y3:rest=mK:=f
        rw[zac Y3]at ak;refine V3 ?_;exact⟨by rw[ak];exact zay Value.bool (zap Bn),by rw[ak];exact(uL (p:=p) d).first.turn⟩
      rw[zaa (show ¬rest=mK from f)]at ak;refine Nz (Q7 rest yL (hT _ d.kept)) (λx _ _ f _=>?_);obtain⟨B,cb,rfl,Pv,hB⟩:=Sep.bH f At0;refine Uz (λ_ f=>?_);refine V2 ?_;rw[ak];unfold nR
      by_cases hq:(eD rest).2=0/\(eD rest).1≠[]
      . rw[zac hq]
        refine⟨rfl,?_⟩;exact(uL (p:=⟨(eD rest).1,p.cols,p.group⟩) (Sep.aF (dY f At0)).aO.bI).first.turn
      rw[zaa hq];exact⟨rfl,pJ f⟩
    have f: ¬st=0:=a;rw[zaa f]at ak;refine Cz (λf=>?_) (λf=>?_)
    . have a:st=2:=f
      refine Cz (λd=>?_) (λd=>?_)
      . rw[zac ⟨a,d⟩]at ak
        refine Uz (λ_ g=>?_);refine V1 ?_;refine aL (akb rest oM (hT _ g.kept)) rfl rfl (λv' _ hv=>?_);obtain⟨⟨n,ev,bn,rfl,afT,Fh,anN⟩,cK⟩:=hv;have i:=g.keep cK;refine Cz (λi=>?_) (λi=>?_)
        . have Y3:rest=mK:=i
          have hgc:qK rest=some (-1):=by unfold qK;rw[zac Y3]
          rw[hgc]at ak;refine Uz (λ_ g=>?_);refine V1 ?_;refine Vv (Gives.UZ (b:=true) (.inl ⟨rfl,rfl⟩) rfl rfl) (Mv ?_);refine dL (t:=74) rfl (λj=>?_) (λj=>?_)
          . refine Sz (λm=>?_) (λm=>?_)
            . refine Sz (λq=>?_) (λq=>?_)
              . exact zas q dC
              refine V5 ?_;exact⟨by rw[ak];exact zay Value.bool (zap Y3),by rw[ak];exact(uL (p:=⟨p.wh,p.cols, -1⟩) g).first.turn⟩
            exact zas (show(-1:Int)<0 from dC) m
          exact Bool.noConfusion j
        have Y3: ¬rest=mK:=i;have hgc:qK rest=(pY rest).map λn:Nat=>((n:Nat):Int):=by unfold qK;rw[zaa Y3]
        refine Uz (λ_ q=>?_);refine V1 ?_;refine Vv (Gives.UZ afT rfl rfl) (Mv ?_);refine dL (t:=74) rfl (λm=>?_) (λm=>?_)
        . have hat:atoiAll rest=.ok n:=Fh m
          have Zb:=aer hat;refine Sz (λj=>?_) (λj=>?_)
          . have mE:qK rest=none:=by
              rw[hgc];cases hq:pY rest with
              | none=>rfl
              | some k=>
                have h1:=(sG.2 (show(pY rest).map (λn:Nat=>((n:Nat):Int))=some (k:Int) by rw[hq];rfl)).1;rw[hat]at h1;injection h1 with h1
                omega
            refine Sz (λj=>?_) (λj=>?_)
            . exact zas j oM
            refine V5 ?_;exact⟨by rw[ak,mE];exact zay Value.bool (zal Y3),by rw[ak,mE];exact pJ q⟩
          refine Kz (Uh n Zb (hT _ q.kept)) (λ_ j _=>?_);refine Sz (λg=>?_) (λg=>?_)
          . refine Sz (λi=>?_) (λi=>?_)
            . have ac9:qK rest=some n:=by rw[hgc];exact sG.1 ⟨hat,oM,by assumption,i⟩
              refine Sz (λi=>?_) (λi=>?_)
              . refine V3 ?_
                exact⟨by rw[ak,ac9];rfl,by rw[ak,ac9];exact(uL (p:=⟨p.wh,p.cols,n⟩) j).first.turn⟩
              exact zas (show 0<=n from oM) i
            have mE:qK rest=none:=by
              rw[hgc];cases hq:pY rest with
              | none=>rfl
              | some k=>
                have h1:=sG.2 (show(pY rest).map (λn:Nat=>((n:Nat):Int))=some (k:Int) by rw[hq];rfl);have h2:=h1.1;rw[hat]at h2;injection h2 with h2
                omega
            refine V2 ?_;exact⟨by rw[ak,mE];rfl,by rw[ak,mE];exact pJ j⟩
          have mE:qK rest=none:=by
            rw[hgc];cases hq:pY rest with
            | none=>rfl
            | some k=>
              have h1:=sG.2 (show(pY rest).map (λn:Nat=>((n:Nat):Int))=some (k:Int) by rw[hq];rfl);have h2:=h1.1;rw[hat]at h2;injection h2 with h2
              exact zas (by rw[h2];exact h1.2.2.1) g
          refine V6 ?_;exact⟨by rw[ak,mE];rfl,by rw[ak,mE];exact pJ j⟩
        have mE:qK rest=none:=by
          rw[hgc];cases hq:pY rest with
          | none=>rfl
          | some k=>exact zas (sG.2 (by rw[hq];rfl)).1 (anN (by simpa using m) _)
        refine V4 ?_;exact⟨by rw[ak,mE];rfl,by rw[ak,mE];exact pJ q⟩
      rw[zaa (λh=>d h.2),zac (.inr a)]at ak;refine V0 ?_;exact au () tR ⟨ak,S⟩
    have a: ¬st=2:=f;rw[zaa (λh=>a h.1)]at ak;refine Cz (λi=>?_) (λi=>?_)
    . have g:st=1\/st=2:=.inl i
      rw[zac g]at ak;refine V0 ?_;exact au () tR ⟨ak,S⟩
    rw[zaa oM]at ak;refine V1 ?_;exact⟨by rw[ak];rfl,by rw[ak];exact pJ S⟩
  rintro _ τ g ⟨hres2,g⟩;refine Lp ?_;refine Uz (λ_ g=>?_);refine V1 ?_;refine aL (ahc rest oM (hT _ g.kept)) rfl rfl (λv' _ hv=>?_);obtain⟨⟨b14,rfl⟩,cK⟩:=hv;have i:=g.keep cK;obtain⟨name,al3⟩: ∃name,name=(jR rest).1:=⟨_,rfl⟩;obtain⟨text,ajc⟩: ∃text,text=(jR rest).2:=⟨_,rfl⟩;have Bj:text.length<=1000000:=by have:=(Q6 rest).2;rw[ajc];omega
  unfold aac at hres2;rw[<-hwd,<-Ja,<-al3,<-ajc]at hres2;rw[<-al3,<-ajc];refine Nz (Q7 text Bj (hT _ i.kept)) (λx _ _ i _=>?_);obtain⟨B,cb,rfl,Pv,hB⟩:=Sep.bH i At0;refine V13 ?_;refine Vb (dx (name,.slice B (eD text).1.length cb)) ?_;refine Bs i ([(name,Value.slice B (eD text).1.length cb)].flatMap dx) (λbs _ i _=>?_);refine dJ i (news:=[(name,Value.slice B (eD text).1.length cb)]) At3 (by unfold maxLen;simp;omega) (by simp;omega) (XG rfl) (h:=?_);intro v2 i i;obtain⟨A2,c2,rfl,g,hA2⟩:=Sep.bH i At3;refine Uz (λ_ g=>?_);refine V2 ?_;refine dL (t:=125) rfl (λi=>?_) (λi=>?_)
  . have his:(nR text).isSome=true:=i
    refine Sz (λS=>?_) (λS=>?_)
    . have hwo:wd=PS:=S
      refine Kz (QY _) (λ_ j _=>?_);refine V2 ?_;cases hq:eZ name with
      | false=>exact⟨by rw[hres2,zaa (λh=>by rw[hq]at h;cases h.2)];rfl,by rw[hres2,zaa (λh=>by rw[hq]at h;cases h.2)];exact pJ j⟩
      | true=>
        have DZ:nR text=some (eD text).1:=by
          unfold nR at his |-
          split at his
          . rename_i h1;rw[zac h1]
          cases his
        refine⟨by rw[hres2,zac ⟨hwo,hq⟩,DZ];rfl,?_⟩;rw[hres2,zac ⟨hwo,hq⟩,DZ];have HA:=(BL (n:=name) (j.gu.aF)).aS.aS.aS;exact(uL (p:=⟨p.wh,p.cols++[⟨name,(eD text).1⟩],p.group⟩) HA).first.turn
    have hwo: ¬wd=PS:=S;refine V2 ?_;exact⟨by rw[hres2,zaa (λh=>hwo h.1)];rfl,by rw[hres2,zaa (λh=>hwo h.1)];exact pJ g⟩
  have mE:nR text=none:=by
    cases hq:nR text with
    | none=>rfl
    | some l=>rw[hq]at i;exact Bool.noConfusion i
  refine V4 ?_;exact⟨by rw[hres2,mE];split<;>rfl,by rw[hres2,mE];split<;>exact pJ g⟩
end Go.Proofs.Mw
