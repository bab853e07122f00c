/-
 Rows put to a keeper of groups;walked.
-/
import Derived.Test.YtjcgliljofbopaaGreatDoorNv26
set_option linter.all false
set_option maxRecDepth 20000
namespace Go.Proofs.Mw
open Go.Lib Go.Proofs.Tryz
attribute [local irreducible] FW FL FG FGn jK jO fI lU Qfn Gives
def Xq {α:Type} {enc:α->LV} {k:Nat} [hk:je enc k] {w:Wd} {A:OA} {l:List α} {c j:Nat} (h:aJ w (.slice A l.length c) enc k l) (hj:j<=l.length):aJ w (.slice (if c=j then A else A.map (·.add (j*k))) (l.length-j) (c-j)) enc k (l.drop j):=by
 obtain⟨A',c',e,⟨h1,h2⟩,h3⟩:=h;injection e with e1 e2 e3
 subst e1;subst e3;have h4:=Mf (j:=l.length-j) h3 h1 h2 oM;rw[show l.length-(l.length-j)=j from oM]at h4;exact h4
def zU (w:Wd) (F:NP) (v:Value) (m:List aH):Prop:=∃r,∀w1,Kept F w w1->aJ w1 v aA 2 r/\gL w1 r m
variable {v:Value}
def zU.is {w:Wd} {F:NP} {m:List aH} (h:zU w F v m): ∀w1,Kept F w w1->dI w1 v m:=λw1 h1=>by
 obtain⟨r,hr⟩:=h;exact⟨r,(hr w1 h1).1,(hr w1 h1).2⟩
variable {w:Wd} {F:NP}
theorem Pg {bk bg bh keys sums:Nat} {m:List aH} {E:List bC} (hp:(star (blk bk [ay bg,I keys] 93) (star (blk bg (qR keys sums bh) 118) (FV bh sums E))).ok F w)
    (hm:zU w F v m) (hT: ∀w1,Kept F w w1->iB w1) (hkm:keys<=16) (Lv:sums<=16) (hr: ∀o∈m,fits o.w/\o.row.length=keys+sums/\gH o.row) (hn:m.length<=100) (hE:vO sums E=true):
    aR prog 357 [ay bk,v] w λu w'=>∃x:Value×List Held,u=.tuple #[x.1,I (yF keys sums E (m.map (eY keys))).2]/\x.2.map (·.2)=(yF keys sums E (m.map (eY keys))).1/\
      Turn F (star (dV x.1 x.2) (star (blk bk [ay bg,I keys] 93) (star (blk bg (qR keys sums bh) 118) (FV bh sums (if(yF keys sums E (m.map (eY keys))).2=0 then E++m.map (eY keys)else E))))) w w':=by
  have H:=(Sep.bR hp).bL;obtain⟨r,hrr⟩:=hm;obtain⟨⟨A,c,rfl,⟨hc,hc'⟩,_⟩,Yt⟩:=hrr w (Kept.refl _ _);have zi:=Yt.len;refine bQ func357 ?_;refine Zb6 ?_;refine aI (λx:(OA×Nat)×List vR×Nat=>[(0,ay bk),(6,.slice x.1.1 x.2.1.length x.1.2),(9,.slice A r.length c),(10,I r.length),(11,I x.2.2)]) (λx w'=>(x.2.2<=r.length/\x.2.1.map (·.2.2)=(m.take x.2.2).map (eY keys)/\∀w1,Kept F w w1->yM w1 x.2.1)/\Mw.Sep w F [aY 406 3 qw (.slice x.1.1 x.2.1.length x.1.2) x.2.1,blk bk [ay bg,I keys] 93,star (blk bg (qR keys sums bh) 118) (FV bh sums E)] w') (λx _=>r.length-x.2.2) ((none,0),[],0) tR ⟨⟨zak _,rfl,λw1 _ z hz=>zar hz zan⟩,Sep.iW H 406 3 qw⟩ (λx τ w8 hI=>?_);obtain⟨⟨X,cX⟩,Z,i⟩:=x;obtain⟨⟨hi,hZm,hZi⟩,H8⟩:=hI;dsimp only at hi hZm hZi H8
  have hZl:Z.length=i:=by
    have h1:=zaw List.length hZm;rw[zaf,zaf,zah]at h1;omega
  refine Lp ?_;refine Cz (λIe=>?_) (λIe=>?_)
  . have aS:i<r.length:=oM
    obtain⟨o,ho⟩:=get_some (l:=m) (show i<m.length from oM);obtain⟨ave,avf,avg⟩:=hr o (zag ho);obtain⟨vo,zh,Dp⟩:=Yt.get ho;obtain⟨V,cv,rfl,⟨hcv,aks⟩,_⟩:=Dp
    have akw: ∀w1,Kept F w w1->aJ w1 (.slice V o.row.length cv) ah 3 o.row:=λw1 h1=>by
      obtain⟨vo2,UU,amZ⟩:=(hrr w1 h1).2.get ho;rw[zh]at UU;injection UU with UU
      injection UU with e1 e2
      rw[e1];exact amZ
    obtain⟨z,hz⟩: ∃z:vR,z=(.slice V keys cv,.slice (if cv=keys then V else V.map (·.add (keys*3))) (o.row.length-keys) (cv-keys),eY keys o):=⟨_,rfl⟩
    have am0: ∀w1,Kept F w w1->yM w1 (Z++[z]):=λw1 h1 y hy=>by
      rcases zbk.1 hy with hy | hy
      . exact hZi w1 h1 y hy
      rw[zau]at hy;subst hy;rw[hz];refine⟨?_,Xq (akw w1 h1) oM⟩;have h2:=Jt (m:=keys) (akw w1 h1) oM;exact h2
    have OI:(Z++[z]).map (·.2.2)=(m.take (i+1)).map (eY keys):=by rw[zai,hZm,zay,ho,hz,zai];rfl
    refine Zb0 ?_;refine Vv (Gives.fF rfl rfl (eO (hrr _ H8.kept).1) aS) (Vv (Gives.iH rfl (Sep.aF _) (eO (hrr _ H8.kept).1) zh) ?_);refine Az (λb8 wa Ha ka=>?_);refine Tz (λwb Hb=>?_);refine Dz (λSa wc Hc=>?_);refine Zb7 ?_;refine GS (Gn rfl (λ_=>Gives.sliceTo (h:=keys) rfl rfl oM) ?_);refine Zb6 ?_;refine GS (Gn rfl (λ_=>Gives.sliceFrom (l:=keys) rfl rfl oM) ?_);refine Zb2 ?_;refine Gp Sa 17 rfl rfl (λ_=>Gives.build (out:=qw z) (by subst hz;exact(Fills.one rfl rfl rfl sM rfl (Fills.one rfl rfl rfl sM rfl (Fills.one rfl rfl rfl sM rfl Fills.nil))))) (Gz Sa 18 _ Hc ([z].flatMap qw) (h:=λbs wd Hd=>⟨sT,?_⟩));refine gF Sa 19 _ Hd (news:=[z]) At1 (by unfold maxLen;simp only[zae];omega) (by simp only[zae];omega) (by subst hz;exact(λu hu=>zaz.1 (show([_].flatMap qw).all Value.oneCell'=true from rfl) u hu)) (h:=λv34 we He=>?_);obtain⟨X2,cX2,rfl,_,_⟩:=Sep.bJ He At1;refine⟨sT,?_⟩;refine sH Sa 20 _ (h:=⟨sT,?_⟩);refine Zb0 ?_;refine Vc ((i+1:Nat):Int) ?_;refine Zb1 ?_;exact aj ((X2,cX2),Z++[z],i+1) tR ⟨⟨dO,OI,am0⟩,He.bH⟩ dO
  have jF:i=m.length:=oM;rw[jF,zbr]at hZm;refine Zb5 ?_;obtain⟨F0,vN,gV,hQ0,aK⟩:=Sep.Ja H8 At1;have EK: ∀w1,Kept F0 _ w1->Kept F w w1:=λw1 h1=>Mw.Kept.into H8.kept gV h1
  have hzo: ∀z∈Z,∃o∈m,z.2.2=eY keys o:=λz hz=>by
    have h1:z.2.2∈Z.map (·.2.2):=zdn hz;rw[hZm]at h1;obtain⟨o,ho,e⟩:=zaq.1 h1;exact⟨o,ho,e.symm⟩
  refine aL (Xk vN (λw1 h1=>by obtain⟨Fq,h2⟩:=hQ0 w1 h1;exact nL h2) (λw1 h1=>hZi w1 (EK w1 h1)) (λw1 h1=>hT w1 (EK w1 h1)) hkm Lv (λz hz=>by
      obtain⟨o,ho,e⟩:=hzo z hz;rw[e];exact λc hc=>(hr o ho).2.2 c (zcg hc)) (λz hz=>by
      obtain⟨o,ho,e⟩:=hzo z hz;rw[e];exact⟨(hr o ho).1,λc hc=>((hr o ho).2.2 c (zed hc)).1⟩) oM hE) rfl rfl (λv' wf KZ=>?_)
  obtain⟨x,rfl,hx,lI,F1,lq,yc⟩:=KZ;rw[hZm]at hx lq ⊢;have Hf:=aK _ F1 _ lI lq yc;refine Zb4 ?_;exact⟨x,rfl,hx,(Hf.bH.aG.bL.aG.aN.aQ.aG.aQ).turn⟩
def Nu {bk bg bh keys sums:Nat} {E:List bC} (hp:(star (blk bk [ay bg,I keys] 93) (star (blk bg (qR keys sums bh) 118) (FV bh sums E))).ok F w) (hn:E.length<=200) (hEk: ∀x∈E,x.key.length=keys) (Lv:sums<=16):
    aR prog 358 [ay bk] w λu w'=>∃x:Value×List Held,u=x.1/\x.2.map (·.2)=lT sums E/\Turn F (star (dV x.1 x.2) (star (blk bk [ay bg,I keys] 93) (star (blk bg (qR keys sums bh) 118) (FV bh sums E)))) w w':=by
  have H:=(Sep.bR hp).bL;refine cK func358 ?_;refine Zb5 ?_;obtain⟨F0,vN,gV,aK⟩:=H.focus At1;refine aL (Z4 vN hn hEk Lv) rfl rfl (λv' _ KZ=>?_);obtain⟨x,rfl,hx,lI,F1,lq,k⟩:=KZ;have S:=aK _ F1 _ lI lq k;refine Zb1 ?_;exact⟨x,rfl,hx,(S.aG.bL.aG.aN.aQ.aG.aQ).turn⟩
def nV (w:Wd) (vw vc:Value) (r:List (L8×Value)) (p:aU):Prop:=aJ w vw aM 3 p.wh/\aJ w vc dL 2 r/\o7 w r p.cols
variable {vc:Value} {p:aU}
def nV.is {vw:Value} {r:List (L8×Value)} (h:nV w vw vc r p):gX w (agg [vw,vc,I p.group]) p:=⟨vw,vc,rfl,h.1,r,h.2.1,h.2.2⟩
def nV.keep {w w':Wd} {vw:Value} {r:List (L8×Value)} {p:aU} (h:nV w vw vc r p) (hk:Kept noB w w'):nV w' vw vc r p:=⟨h.1.keep hk,h.2.1.keep hk,h.2.2.keep hk⟩
structure Km where
 cv:Value
 wv:Value
 pv:Value
 ov:Value
 r:List (L8×Value)
def lG (w:Wd) (z:Km) (cols:List bY) (p:aU) (outs:List bY):Prop:=aJ w z.cv aP 7 cols/\nV w z.wv z.pv z.r p/\aJ w z.ov aP 7 outs
def Nv (v:Value):LV:=[v]
instance:je Nv 1:=⟨λ_=>rfl⟩
def Q9 (w:Wd) (b1:Nat) (g:Value) (l:List bI):Prop:=∃(bs:Nat) (sv:Value),g=.func (.func 54) #[] #[ay b1,ay bs]/\gM w bs [sv] 23/\aJ w sv aM 3 l
def mM (w:Wd) (b1:Nat) (g:Value) (l:List bI):Prop:=if l=[]then g=.func (.func 56) #[] #[]else Q9 w b1 g l
def oJ (w:Wd) (b1:Nat) (gl:LV) (l:List nO):Prop:=gl.length=l.length/\∀(i:Nat) g o,gl[i]? =some g->l[i]? =some o->Q9 w b1 g o.steps
def Ua (w:Wd) (b b1 bp b4:Nat) (p:aU):Prop:=∃(pf gv:Value) (gl:LV),gM w b1 [ay b] 42/\
 (gM w bp [pf] 120/\mM w b1 pf p.wh)/\(gM w b4 [gv] 124/\aJ w gv Nv 1 gl)/\oJ w b1 gl p.cols
def Kn (b1 bp b4:Nat):Value:=.func (.func 57) #[] #[ay b1,ay bp,ay b4]
def pR (w:Wd) (b:Nat) (fv:Value) (p:aU):Prop:=∃b1 bp b4:Nat,fv=Kn b1 bp b4/\Ua w b b1 bp b4 p
variable {b1:Nat}
def ad9 {b bp b4:Nat} (h:pR w b (Kn b1 bp b4) p):Ua w b b1 bp b4 p:=by
 obtain⟨c1,cp,c4,e,h⟩:=h;unfold Kn at e;injection e with _ _ e
 simp[ay]at e;obtain⟨rfl,rfl,rfl⟩:=e;exact h
variable {g:Value}
def Q9.keep {w w':Wd} {l:List bI} (h:Q9 w b1 g l) (hk:Kept noB w w'):Q9 w' b1 g l:=by
 obtain⟨bs,sv,e,h1,h2⟩:=h;exact⟨bs,sv,e,h1.keep hk,h2.keep hk⟩
def mM.keep {w w':Wd} {l:List bI} (h:mM w b1 g l) (hk:Kept noB w w'):mM w' b1 g l:=by
 unfold mM at h |-
 split
 .rename_i e;rw[zac e]at h;exact h
 rename_i e;rw[zab e]at h;exact h.keep hk
def oJ.nil:oJ w b1 [] []:=⟨rfl,λi g o h=>by simp at h⟩
def oJ.push {gl:LV} {l:List nO} {o:nO} (h:oJ w b1 gl l) (hg:Q9 w b1 g o.steps):oJ w b1 (gl++[g]) (l++[o]):=by
 refine⟨by rw[zad,zad,h.1];rfl,λi x y hx hy=>?_⟩
 by_cases hi:i<gl.length
 .rw[zcj hi]at hx
  rw[zcj (by rw[<-h.1];exact hi)]at hy;exact h.2 i x y hx hy
 rw[zby oM]at hx;rw[zby (by rw[<-h.1];omega),<-h.1]at hy
 have h0:i-gl.length=0:=by
  cases hj:i-gl.length with
  | zero=>rfl
  | succ j=>rw[hj]at hx;simp at hx
 rw[h0]at hx hy;injection hx with hx
 injection hy with hy
 subst hx;subst hy;exact hg
def r9 (z:Km) (g:Int) (kv:Value) (o1 o2 o3:Int) (fv:Value):LV:=mI z.cv z.wv z.pv g z.ov kv o1 o2 o3 fv
def sj (kv:Value) (p:aU) (T:List aH):HP:=
 if p.group<0 then exH λx:Nat×Value=>star (jB (kv=.iface 68 (ay x.1))) (star (blk x.1 [x.2] 70) (Bq x.2 (dh T).1))
 else exH λx:Nat×Nat×Nat=>star (jB (kv=.iface 91 (ay x.1))) (star (blk x.1 [ay x.2.1,I (p.group.toNat:Nat)] 93) (star (blk x.2.1 (qR p.group.toNat (p.cols.length-p.group.toNat) x.2.2) 118) (FV x.2.2 (p.cols.length-p.group.toNat) (T.map (eY p.group.toNat)))))
def qW (b:Nat) (cols:List bY) (p:aU) (T:List aH):HP:=exH λx:Km×Value×Int×Value=>star (blk b (r9 x.1 p.group x.2.1 x.2.2.1 0 0 x.2.2.2) 87) (star (sj x.2.1 p T)
 (fQ λw=>lG w x.1 cols p (bX cols p).1/\((x.2.2.1=0/\x.2.2.2=.nilFunc)\/(x.2.2.1=1/\pR w b x.2.2.2 p))))
def txA:L8:=[119,104,101,114,101,32,35,49,32,48,32,60,32,110,111,116,10,111,117,116,32,115,32,35,50,10,103,114,111,117,112,32,110,111,110,101,10]
def plA:aU:=⟨[⟨1,1,[]⟩,⟨2,0,[]⟩,⟨12,0,[]⟩,⟨15,0,[]⟩],[⟨[115],[⟨1,2,[]⟩]⟩], -1⟩
def txG:L8:=[119,104,101,114,101,32,110,111,110,101,10,111,117,116,32,115,32,35,50,10,111,117,116,32,110,32,35,49,10,103,114,111,117,112,32,49,10]
def plG:aU:=⟨[],[⟨[115],[⟨1,2,[]⟩]⟩,⟨[110],[⟨1,1,[]⟩]⟩],1⟩
def txO:L8:=[119,104,101,114,101,32,110,111,110,101,10,111,117,116,32,120,32,35,49,32,57,50,50,51,51,55,50,48,51,54,56,53,52,55,55,53,56,48,55,32,43,10,103,114,111,117,112,32,110,111,110,101,10]
def plO:aU:=⟨[],[⟨[120],[⟨1,1,[]⟩,⟨2,9223372036854775807,[]⟩,⟨7,0,[]⟩]⟩], -1⟩
def Ju (l:List bI):Bool:=l.all λx=>decide (-9223372036854775808<=x.n/\x.n<=9223372036854775807)
def DR {l:List bI} (h:Ju l=true):aZ l:=λx hx=>by
 have h1:=zaz.1 h x hx;exact zbd (p:= -9223372036854775808<=x.n/\x.n<=9223372036854775807) h1
def textOf (p:aU) (t:L8):Bool:=Dr p&&Ju p.wh&&p.cols.all (λo=>Ju o.steps)&&decide (tT (lJ p)=t)&&decide (t.length<=1000)
def BF {t:L8} (h:textOf p t=true):qC t=(p,0,0)/\(aZ p.wh/\∀o∈p.cols,aZ o.steps)/\t.length<=1000:=by
 unfold textOf at h;simp only[zbq,decide_eq_true_eq]at h;obtain⟨⟨⟨⟨h1,h2⟩,h3⟩,h4⟩,h5⟩:=h;have f2:=DR h2;have f3: ∀o∈p.cols,aZ o.steps:=λo ho=>DR (zaz.1 h3 o ho);subst h4;exact⟨adh h1 f2 f3 oM,⟨f2,f3⟩,h5⟩
def akL:textOf plA txA=true:=by decide+kernel
def agY:textOf plG txG=true:=by decide+kernel
def akM:textOf plO txO=true:=by decide+kernel
def aV:L8:=[97]
def bV:L8:=[98]
def iV (id:Int) (s:L8) (w:Int):aH:=⟨abL id s,w⟩
def iF (s:L8):aC:=⟨false,0,s⟩
def u6 (n:Int):aC:=⟨false,n,[]⟩
def Ko (w:Int):aH:=⟨[iF aV],w⟩
def KO (s:aC) (count n w:Int):aH:=⟨[s,u6 count,u6 n],w⟩
def lA1:List aH:=[iV 1 aV 1,iV (-2) bV 1,iV 3 aV 2]
def lA2:List aH:=[iV 1 aV (-1),iV (-2) bV (-1)]
def lG1:List aH:=[iV 5 aV 1,iV 2 aV 1,iV 1 [] 1]
def lG2:List aH:=[iV 2 aV (-1),iV 9 aV 1]
def lG3:List aH:=[⟨[u6 1,iF aV,iF aV],1⟩]
def lD:List aH:=[⟨[u6 2147483648],1⟩]
def lO1:List aH:=[iV 1 aV 1]
def lO2:List aH:=[iV 0 aV 1]
def tA1:List aH:=iP pz plA [] lA1
def tA2:List aH:=iP pz plA tA1 lA2
def tG1:List aH:=iP pz plG [] lG1
def tG2:List aH:=iP pz plG tG1 lG2
def FX:aC:=⟨true,0,[]⟩
def Es:(bX pz plA).2=0/\gP pz plA [] lA1=([Ko 3],0)/\gP pz plA tA1 lA2=([Ko (-1)],0)/\fq plA.group plA.cols.length tA2=([Ko 2],0):=by decide+kernel
def oU:(bX pz plG).2=0/\gP pz plG [] lG1=([KO FX 1 1 1,KO (iF aV) 2 7 1],0)/\gP pz plG tG1 lG2=([KO (iF aV) 2 7 (-1),KO (iF aV) 2 14 1],0)/\gP pz plG tG2 lG3=([],100)/\gP pz plG tG2 []=([],0)/\iQ pz plG lD=([],100):=by decide+kernel
def Jv:(bX pz plO).2=0/\gP pz plO [] lO1=([],50)/\gP pz plO [] lO2=([⟨[u6 9223372036854775807],1⟩],0):=by decide+kernel
theorem Jw (hp:gX w v p) (hn:p.cols.length<=100) (Au:p.wh.length<=1000) (OP: ∀o∈p.cols,o.steps.length<=1000):aR Tryz.prog 29 [v] w λu w'=>∃x:Value×Value×List (L8×Value),u=agg [x.1,x.2.1,I p.group]/\True/\Turn noB (fQ λw=>nV w x.1 x.2.1 x.2.2 p) w w':=by
 obtain⟨vw,vc,rfl,hw,hc⟩:=hp;obtain⟨r,hr,eF⟩:=hc;have Yc:=hw;obtain⟨W,mw,rfl,⟨hmw,avh⟩,hW⟩:=Yc;obtain⟨A,m,rfl,⟨hm,om⟩,hA⟩:=hr;have zi:=eF.len;have H:=Sep.aF w;refine oV Tryz.func29 ?_;refine Sr (bB H (cs:=[.slice W p.wh.length mw,.slice A r.length m,I p.group]) rfl (h:=λb1 _ _ _=>?_));refine Az (λb2 _ _ _=>?_);refine Qn (dD (λz:Nat×OA×Nat=>[(1,ay b1),(2,ay b2),(3,ay z.1)]) (λz w'=>Mw.Sep w noB [FB (.slice z.2.1 p.wh.length z.2.2) aM 3 p.wh,blk z.1 [.slice z.2.1 p.wh.length z.2.2,.slice none 0 0,I p.group] 26,blk b2 [.slice none 0 0,.slice none 0 0,I 0] 26,blk b1 [.slice W p.wh.length mw,.slice A r.length m,I p.group] 26] w') ?_ ?_)
 .refine Dz (λk _ S=>?_)
  refine Zb2 ?_;refine Gp k 3 rfl rfl (λ_=>(Gives.xL rfl)) (Zb1 ?_);refine j4 k (e1:=2) (e2:=6) kR ?_ ?_
  .refine mO k 2 [(4,false),(3,true)] S (xQ (hw.keep S.kept) Au) (h:=λvx _ _ c _=>?_)
   obtain⟨X,cx,rfl,_,_⟩:=Sep.bJ c At0;refine⟨sL,?_⟩;refine Gb k 5 [.slice X p.wh.length cx,.slice none 0 0,I p.group] ?_;refine tZ k 6 [(5,true),(4,false),(3,true)] c (h:=λb3 _ c=>⟨sL,?_⟩);refine bN k 7 _ c (h:=λ_ c=>⟨sT,?_⟩);refine Zb0 ?_;exact au (b3,X,cx) tR (by first | exact dU c At0 | exact dU c.aG At0)
  refine lM k 6 [(4,false),(3,true),(1,false),(0,true)] S (h:=λb3 _ c=>⟨sL,?_⟩);refine dY k 2 [(4,false),(3,true)] c (xQ (hw.keep c.kept) Au) (h:=λvx _ _ c _=>?_);obtain⟨X,cx,rfl,_,_⟩:=Sep.bJ c At0;refine⟨sL,?_⟩;refine Gb k 5 [.slice X p.wh.length cx,.slice none 0 0,I p.group] ?_;refine bN k 7 _ c (h:=λ_ c=>⟨sT,?_⟩);refine Zb0 ?_;exact au (b3,X,cx) tR (by first | exact dU c At0 | exact dU c.aG At0)
 rintro⟨b3,X,cx⟩ τ c c;dsimp only at c;refine Lp ?_;refine Zb4 ?_;have k:=Em (Sep.iW c 49 2 dL);refine aI (λx:Nat×(OA×Nat)×List (L8×Value)=>[(2,ay b2),(3,ay b3),(13,.slice A r.length m),(14,I r.length),(15,I x.1)]) (λx w'=>(x.1<=r.length/\x.2.2.length=x.1)/\Mw.Sep w noB [Al x.2.2 (p.cols.take x.1),aY 49 2 dL (.slice x.2.1.1 x.2.2.length x.2.1.2) x.2.2,FB (.slice X p.wh.length cx) aM 3 p.wh,blk b3 [.slice X p.wh.length cx,.slice x.2.1.1 x.2.2.length x.2.1.2,I p.group] 26,blk b2 [.slice none 0 0,.slice none 0 0,I 0] 26] w') (λx _=>r.length-x.1) (0,(none,0),[]) tR ⟨⟨zak _,rfl⟩,k.firsts (l:=[_,_,_,_,_])⟩ (λx τ _ hI=>?_);obtain⟨i,⟨C,cc⟩,q⟩:=x;obtain⟨⟨hi,YC⟩,k⟩:=hI;dsimp only at hi YC k;refine Lp ?_;refine Cz (λc=>?_) (λc=>?_)
 .have aS:i<p.cols.length:=oM
  obtain⟨vx,hx,Ci⟩:=eF.at aS;have rH:p.cols[i]? =some p.cols[i]:=zaa aS;obtain⟨o,ho⟩: ∃o,o=p.cols[i]:=⟨_,rfl⟩;rw[<-ho]at hx Ci rH;have xY:p.cols.take (i+1)=p.cols.take i++[o]:=by rw[zay,rH,zcw]
  have hol:=OP o (zag rH);have asn:=Ci;obtain⟨V,cv,rfl,_,_⟩:=asn;refine Zb0 ?_;refine Vv (Gives.fF rfl rfl hA oM) (Vv (Gives.iH rfl k hA hx) ?_);refine Az (λb5 _ _ _=>?_);refine Tz (λ_ _=>?_);refine Dz (λc _ S=>?_);refine Zb6 ?_;refine dY c 6 [(3,false),(2,true),(1,false),(0,true)] S (xQ (l:=o.steps) (Ci.keep S.kept) hol) (h:=λvy _ _ S _=>?_);obtain⟨Y,cy,rfl,_,_⟩:=Sep.bJ S At0;refine⟨sL,?_⟩;refine Gb c 7 (dL (o.name,.slice Y o.steps.length cy)) ?_;refine Gz c 8 [(1,false),(0,true)] S ([(o.name,Value.slice Y o.steps.length cy)].flatMap dL) (h:=λbs _ S=>⟨sL,?_⟩);refine gF c 9 _ S (news:=[(o.name,Value.slice Y o.steps.length cy)]) At3 (by unfold maxLen;simp;omega) (by simp;omega) (λu hu=>zaz.1 (show([(o.name,Value.slice Y o.steps.length cy)].flatMap dL).all Value.oneCell'=true from rfl) u hu) (h:=λv2 _ S=>?_);obtain⟨C2,c2,rfl,_,_⟩:=Sep.bJ S At3;refine⟨sT,?_⟩;refine Zb1 ?_;refine lX c 11 _ S (h:=λ_ S=>⟨sT,?_⟩);refine Zb0 ?_;refine Vc ((i+1:Nat):Int) ?_;refine Zb1 ?_;exact aj (i+1,(C2,c2),q++[(o.name,Value.slice Y o.steps.length cy)]) tR ⟨⟨dO,by dsimp only;rw[zad,YC];rfl⟩,by
  dsimp only;rw[xY];exact Bp S.aG.bH⟩ dO
 have qU:p.cols.take i=p.cols:=zaj oM;refine Zb0 ?_;refine fE k (cs:=[.slice X p.wh.length cx,.slice C q.length cc,I p.group]) (h:=?_);refine Tz (λ_ S=>?_);refine Zb0 ?_;rw[qU]at S;have h1:=dU S.aG At0;have h2:=Sep.l6 (Z:=λw=>aJ w (.slice C q.length cc) dL 2 q/\o7 w q p.cols) h1 (λw a b=>⟨a,b⟩);have h3:=Sep.l6 (Z:=λw=>nV w (.slice X p.wh.length cx) (.slice C q.length cc) q p) h2.aG (λw a b=>⟨a,b⟩);exact⟨_,fB S,(.slice X p.wh.length cx,.slice C q.length cc,q),rfl,trivial,h3.first.turn⟩
def Kq (A:OA) (n c:Nat) (b1:Nat):aR prog 53 [.slice A n c,ay b1] w λu w'=>∃bs:Nat,u=.func (.func 54) #[] #[ay b1,ay bs]/\True/\Turn noB (blk bs [.slice A n c] 23) w w':=by
 have H:=Sep.aF w;refine bQ func53 ?_;refine Sr (bB H (cs:=[.slice A n c]) rfl (h:=λbs _ k _=>?_));refine Zb3 ?_;exact⟨bs,rfl,trivial,k.turn⟩
theorem Z6 {b:Nat} {z:Km} {kv fv:Value} {o1 o2 o3:Int} {cols outs:List bY} {p:aU} (hp:(star (blk b (r9 z p.group kv o1 o2 o3 fv) 87) (fQ λw=>lG w z cols p outs)).ok F w) (hn:p.cols.length<=100):
    aR prog 33 [ay b] w λ_ w'=>∃gv:Value,Turn F (star (blk b (r9 z p.group kv o1 o2 o3 gv) 87) (fQ λw=>lG w z cols p outs/\pR w b gv p)) w w':=by
  have H:=(Sep.bR hp).bL;obtain⟨cv,wv,pv,ov,r⟩:=z;have hF0:lG _ ⟨cv,wv,pv,ov,r⟩ cols p outs:=Sep.sees H At1;have Yc:aJ _ wv aM 3 p.wh:=hF0.2.1.1;have hr0:aJ _ pv dL 2 r:=hF0.2.1.2.1;obtain⟨W,cw,rfl,_,_⟩:=Yc;obtain⟨A,ca,rfl,_,_⟩:=hr0;have zi:=hF0.2.1.2.2.len;dsimp only at zi;unfold r9 at H ⊢;dsimp only at H ⊢;refine cK func33 ?_;refine Sr (bB H (cs:=[ay b]) rfl (h:=λb1 _ _ _=>?_));refine Az (λbp _ _ _=>?_);refine Uz (λ_ k=>?_);refine Qn (dD (λx:Value=>[(1,ay b1),(2,.func (.func 53) #[] #[ay b1]),(3,ay bp)]) (λx w'=>Mw.Sep w F [fQ λw=>lG w ⟨cv,.slice W p.wh.length cw,.slice A r.length ca,ov,r⟩ cols p outs/\mM w b1 x p.wh,blk bp [x] 120,blk b1 [ay b] 42,blk b (mI cv (.slice W p.wh.length cw) (.slice A r.length ca) p.group ov kv o1 o2 o3 fv) 87] w') ?_ ?_)
  . refine Cz (λS=>?_) (λS=>?_)
    . have hwn: ¬p.wh=[]:=λe=>by have h:=S;rw[e]at h;simp at h
      refine Zb6 ?_;refine eP (fs:=[]) (cs:=[ay b1]) (vals:=[.slice W p.wh.length cw]) rfl (Kq W p.wh.length cw b1) rfl rfl (λv' _ hv=>?_);obtain⟨bs,rfl,_,lI,F1,lq,S⟩:=hv;have c:=k.new lI lq (λb hb=>(S b hb).resolve_left id);refine Uz (λ_ c=>?_);refine Zb0 ?_;have h1:=Sep.look c At0 (X:=λw=>gM w bs [.slice W p.wh.length cw] 23) (λF w h=>h.2);have h2:=Sep.l6 (Z:=λw=>lG w ⟨cv,.slice W p.wh.length cw,.slice A r.length ca,ov,r⟩ cols p outs/\mM w b1 (.func (.func 54) #[] #[ay b1,ay bs]) p.wh) h1.gG (λw g1 g2=>⟨g1,by unfold mM;rw[zab hwn];exact⟨bs,_,rfl,g2,g1.2.1.1⟩⟩);exact au (.func (.func 54) #[] #[ay b1,ay bs]) tR h2
    have hwn:p.wh=[]:=zbg oM;refine Zb0 ?_;have h1:=Sep.qF (Y:=λw=>lG w ⟨cv,.slice W p.wh.length cw,.slice A r.length ca,ov,r⟩ cols p outs/\mM w b1 (.func (.func 56) #[] #[]) p.wh) k At3 (λw h=>⟨h,by unfold mM;rw[zac hwn]⟩);exact au (.func (.func 56) #[] #[]) tR h1.aX
  rintro pf τ c c;refine Lp ?_;refine Az (λb4 _ c _=>?_);refine Zb7 ?_;have k:=Sep.qF (Y:=λw=>lG w ⟨cv,.slice W p.wh.length cw,.slice A r.length ca,ov,r⟩ cols p outs/\mM w b1 pf p.wh/\oJ w b1 [] []) c At1 (λw h=>⟨h.1,h.2,oJ.nil⟩);refine aI (λx:(OA×Nat)×LV×Nat=>[(1,ay b1),(2,.func (.func 53) #[] #[ay b1]),(3,ay bp),(4,ay b4),(26,.slice A r.length ca),(27,I r.length),(28,I x.2.2)]) (λx w'=>(x.2.2<=r.length/\x.2.1.length=x.2.2)/\Mw.Sep w F [blk b4 [.slice x.1.1 x.2.1.length x.1.2] 124,aY 120 1 Nv (.slice x.1.1 x.2.1.length x.1.2) x.2.1,fQ λw=>lG w ⟨cv,.slice W p.wh.length cw,.slice A r.length ca,ov,r⟩ cols p outs/\mM w b1 pf p.wh/\oJ w b1 x.2.1 (p.cols.take x.2.2),blk bp [pf] 120,blk b1 [ay b] 42,blk b (mI cv (.slice W p.wh.length cw) (.slice A r.length ca) p.group ov kv o1 o2 o3 fv) 87] w') (λx _=>r.length-x.2.2) ((none,0),[],0) tR ⟨⟨zak _,rfl⟩,(Sep.iW k 120 1 Nv).aG⟩ (λx τ _ hI=>?_);obtain⟨⟨G,cG⟩,gl,i⟩:=x;obtain⟨⟨hi,JQ⟩,k⟩:=hI;dsimp only at hi JQ k;refine Lp ?_;refine Cz (λc=>?_) (λc=>?_)
  . have aS:i<p.cols.length:=oM
    have hPA:=(Sep.sees k At2).1.2.1;obtain⟨vx,hx,Ci⟩:=hPA.2.2.at aS;have rH:p.cols[i]? =some p.cols[i]:=zaa aS;obtain⟨o,ho⟩: ∃o,o=p.cols[i]:=⟨_,rfl⟩;rw[<-ho]at hx Ci rH;have xY:p.cols.take (i+1)=p.cols.take i++[o]:=by rw[zay,rH,zcw]
    obtain⟨V,cV,rfl,_,_⟩:=Ci;refine Zb0 ?_;refine Vv (Gives.fF rfl rfl (eO (Sep.sees k At2).1.2.1.2.1) oM) (Vv (Gives.iH rfl (Sep.aF _) (eO (Sep.sees k At2).1.2.1.2.1) hx) ?_);refine Az (λb6 _ _ _=>?_);refine Tz (λ_ _=>?_);refine Dz (λc _ k=>?_);refine Zb4 ?_;refine jU c 4 [(0,false)] (y:=.tmp 33) (fs:=[]) (cs:=[ay b1]) (vals:=[.slice V o.steps.length cV]) rfl (Kq V o.steps.length cV b1) (h:=λv' _ hv=>?_);obtain⟨bs,rfl,_,lI,F1,lq,S⟩:=hv;have d:=k.new lI lq (λb hb=>(S b hb).resolve_left id);refine⟨sL,?_⟩;refine Gz c 5 [(0,false)] d ([Value.func (.func 54) #[] #[ay b1,ay bs]].flatMap Nv) (h:=λbq _ d=>⟨sL,?_⟩);refine gF c 6 _ d (news:=[Value.func (.func 54) #[] #[ay b1,ay bs]]) At3 (by unfold maxLen;simp only[zae];omega) (by simp only[zae];omega) (λu hu=>zaz.1 (show([Value.func (.func 54) #[] #[ay b1,ay bs]].flatMap Nv).all Value.oneCell'=true from rfl) u hu) (h:=λv38 _ d=>?_);obtain⟨G2,c2,rfl,_,_⟩:=Sep.bJ d At3;refine⟨sT,?_⟩;refine lX c 7 _ d (h:=λ_ d=>⟨sT,?_⟩);refine Zb0 ?_;refine Vc ((i+1:Nat):Int) ?_;refine Zb1 ?_;have h1:=Sep.look d At0 (X:=λw=>gM w bs [.slice V o.steps.length cV] 23) (λF w h=>h.2)
    have h2:=Sep.l6 (Z:=λw=>lG w ⟨cv,.slice W p.wh.length cw,.slice A r.length ca,ov,r⟩ cols p outs/\mM w b1 pf p.wh/\oJ w b1 (gl++[Value.func (.func 54) #[] #[ay b1,ay bs]]) (p.cols.take (i+1))) (h1.aG.bH.aX) (λw g1 g2=>⟨g1.1,g1.2.1,by
      rw[xY];refine g1.2.2.push ⟨bs,_,rfl,g2,?_⟩;obtain⟨vy,hy,hsy⟩:=g1.1.2.1.2.2.at aS;rw[<-ho,hx]at hy;injection hy with hy
      injection hy with _ hy
      rw[<-ho,<-hy]at hsy;exact hsy⟩)
    exact aj ((G2,c2),gl++[Value.func (.func 54) #[] #[ay b1,ay bs]],i+1) tR ⟨⟨dO,by dsimp only;rw[zad,JQ];rfl⟩,h2.aN.aN⟩ dO
  have qU:p.cols.take i=p.cols:=zaj oM;refine Zb1 ?_;refine Vv (Gives.makeFunc (us:=[]) (vs:=[ay b1,ay bp,ay b4]) rfl rfl) (Uz (λ_ d=>?_));refine Zb0 ?_;rw[qU]at d;have h1:=Sep.look d.aQ At0 (X:=λw=>gM w b4 [.slice G gl.length cG] 124/\aJ w (.slice G gl.length cG) Nv 1 gl) (λF w h=>by obtain⟨F1,F2,_,_,a,b⟩:=h;exact⟨a.2,nL b⟩);have h2:=Sep.l6 (Z:=λw=>(lG w ⟨cv,.slice W p.wh.length cw,.slice A r.length ca,ov,r⟩ cols p outs/\mM w b1 pf p.wh/\oJ w b1 gl p.cols)/\gM w b4 [.slice G gl.length cG] 124/\aJ w (.slice G gl.length cG) Nv 1 gl) h1 (λw a b=>⟨b,a⟩);have h3:=Sep.look h2 At1 (X:=λw=>gM w bp [pf] 120) (λF w h=>h.2);have h4:=Sep.l6 (Z:=λw=>((lG w ⟨cv,.slice W p.wh.length cw,.slice A r.length ca,ov,r⟩ cols p outs/\mM w b1 pf p.wh/\oJ w b1 gl p.cols)/\gM w b4 [.slice G gl.length cG] 124/\aJ w (.slice G gl.length cG) Nv 1 gl)/\gM w bp [pf] 120) h3 (λw a b=>⟨a,b⟩);have h5:=Sep.look h4 At1 (X:=λw=>gM w b1 [ay b] 42) (λF w h=>h.2);have h6:=Sep.l6 (Z:=λw=>lG w ⟨cv,.slice W p.wh.length cw,.slice A r.length ca,ov,r⟩ cols p outs/\pR w b (.func (.func 57) #[] #[ay b1,ay bp,ay b4]) p) h5 (λw a b=>⟨a.1.1.1,b1,bp,b4,rfl,pf,_,gl,b,⟨a.2,a.1.1.2.1⟩,a.1.2,a.1.1.2.2⟩);exact⟨_,h6.aG.aQ.first.turn⟩
def cellP (b o:Nat):Value:=.pointer (some ⟨b,o,none⟩)
variable {b:Nat} {cv wv pv ov kv fv:Value} {g o1 o2 o3:Int}
def BG {E:Td} (hb:gM w b (mI cv wv pv g ov kv o1 o2 o3 fv) E):Rk prog 51 [cellP b 6] w (.bool (decide (o1≠0))):=by
 have H:=Sep.aF w;refine cK func51 ?_;refine Zb4 ?_;refine Vv (Gives.ext (vals:=[cellP b 6]) (run_call_load (P:=prog) func88 kR kR kR .u32 kR (by rw[jP (hb.keep H.kept)];rfl))) ?_;refine Zb2 ?_;exact⟨rfl,H.kept⟩
def aea (hp:(blk b (mI cv wv pv g ov kv o1 0 o3 fv) 87).ok F w):aR prog 135 [cellP b 7] w λv w'=>v=.tuple #[]/\Turn F (blk b (mI cv wv pv g ov kv o1 1 o3 fv) 87) w w':=by
 have H:=Sep.bR hp;refine cK func135 ?_;refine Sr (Vv (Gives.ext (vals:=[]) (run_call_mark0 (P:=prog) func183 kR kR kR .disable kR _)) (Zb3 ?_));obtain⟨k,Au⟩: ∃S,S=World.setCell w ⟨b,7,none⟩ (.int .i32 1):=⟨_,rfl⟩;have S:Mw.Sep w F [blk b (mI cv wv pv g ov kv o1 1 o3 fv) 87] k:=by rw[Au];exact Lg (o:=7) (v:=.int .i32 1) H At0 rfl
 refine dw (w':=k) (Gives.ext (vals:=[cellP b 7,.int .i32 0,.int .i32 1]) (by rw[Au];exact run_call_cas_hit (P:=prog) func184 kR kR kR .i32 kR (by rw[jP (H.obj At0)];rfl) (zW (H.obj At0)))) rfl ?_;refine Qn (Cd rfl (λk=>?_) (λk=>?_))
 .refine AL (Cd rfl (λI=>?_) (λI=>?_))
  .refine Sr (Vv (Gives.ext (vals:=[]) (run_call_mark0 (P:=prog) func185 kR kR kR .enable kR _)) (Zb1 ?_))
   refine Vv (Gives.abT (a:=⟨b,7,none⟩) (run_convert_to_unsafe (P:=prog) (t:=80) kR kR kR (v:=.int .i32 1) (by rw[jP (S.obj At0)];rfl)) rfl) ?_;refine Vv (Gives.ext (vals:=[cellP b 7]) (run_call_marked (P:=prog) func186 kR kR kR .acquire kR ⟨b,7,none⟩ _)) (Zb0 ?_);exact⟨rfl,S.turn⟩
  refine Zb0 ?_;exact⟨rfl,S.turn⟩
 exact Bool.noConfusion k
def Xr (hp:(blk b (mI cv wv pv g ov kv o1 1 o3 fv) 87).ok F w):aR prog 136 [cellP b 7] w λv w'=>v=.tuple #[]/\Turn F (blk b (mI cv wv pv g ov kv o1 0 o3 fv) 87) w w':=by
 have H:=Sep.bR hp;refine cK func136 ?_;refine AL (Cd rfl (λk=>?_) (λk=>?_))
 .refine Zb3 ?_
  refine dM (H.obj At0) (h:=?_);refine Zb1 ?_;refine Vv (Gives.abT (a:=⟨b,7,none⟩) (run_convert_to_unsafe (P:=prog) (t:=80) kR kR kR (v:=.int .i32 1) (by rw[jP (H.obj At0)];rfl)) rfl) ?_;refine Vv (Gives.ext (vals:=[cellP b 7]) (run_call_marked (P:=prog) func188 kR kR kR .releaseMerge kR ⟨b,7,none⟩ _)) (Zb0 ?_);refine Vv (Gives.ext (vals:=[]) (run_call_mark0 (P:=prog) func183 kR kR kR .disable kR _)) (Zb3 ?_);obtain⟨k,Au⟩: ∃S,S=World.setCell w ⟨b,7,none⟩ (.int .i32 0):=⟨_,rfl⟩;have I:Mw.Sep w F [blk b (mI cv wv pv g ov kv o1 0 o3 fv) 87] k:=by rw[Au];exact Lg (o:=7) (v:=.int .i32 0) H At0 rfl
  refine dw (w':=k) (Gives.ext (vals:=[cellP b 7,.int .i32 (-1)]) (by rw[Au];exact run_call_add (P:=prog) func189 kR kR kR .i32 kR (x:=1) (by rw[jP (H.obj At0)];rfl) (zW (H.obj At0)) (by simp[go_sem];rfl))) rfl ?_;refine Cz (λk=>?_) (λk=>?_)
  .exact zar rfl k
  refine Zb0 ?_;refine Vv (Gives.ext (vals:=[]) (run_call_mark0 (P:=prog) func185 kR kR kR .enable kR _)) (Zb0 ?_);exact⟨rfl,I.turn⟩
 refine Zb3 ?_;obtain⟨k,Au⟩: ∃S,S=World.setCell w ⟨b,7,none⟩ (.int .i32 0):=⟨_,rfl⟩;have S:Mw.Sep w F [blk b (mI cv wv pv g ov kv o1 0 o3 fv) 87] k:=by rw[Au];exact Lg (o:=7) (v:=.int .i32 0) H At0 rfl
 refine dw (w':=k) (Gives.ext (vals:=[cellP b 7,.int .i32 (-1)]) (by rw[Au];exact run_call_add (P:=prog) func189 kR kR kR .i32 kR (x:=1) (by rw[jP (H.obj At0)];rfl) (zW (H.obj At0)) (by simp[go_sem];rfl))) rfl ?_;refine Cz (λk=>?_) (λk=>?_)
 .exact zar rfl k
 refine Zb0 ?_;refine Vv (Gives.ext (vals:=[]) (run_call_mark0 (P:=prog) func185 kR kR kR .enable kR _)) (Zb0 ?_);exact⟨rfl,S.turn⟩
def ajw (hp:(blk b (mI cv wv pv g ov kv o1 0 o3 fv) 87).ok F w):aR prog 89 [cellP b 7] w λv w'=>v=.tuple #[]/\Turn F (blk b (mI cv wv pv g ov kv o1 1 o3 fv) 87) w w':=by
 have H:=Sep.bR hp;refine cK func89 ?_;refine Zb3 ?_;refine NS H At0 (λF' hp _=>aea hp) (h:=λ_ k=>?_);refine Zb0 ?_;exact⟨rfl,k.turn⟩
def Z7 (hp:(blk b (mI cv wv pv g ov kv o1 1 o3 fv) 87).ok F w):Aq prog 90 [cellP b 7] w λ_ w'=>Turn F (blk b (mI cv wv pv g ov kv o1 0 o3 fv) 87) w w':=by
 have H:=Sep.bR hp;refine al8 func90 ?_;refine Zb3 ?_;refine NS H At0 (λF' hp _=>Xr hp) (h:=λ_ k=>?_);refine xK (Ku (h:=?_));exact⟨[],rfl,k.turn⟩
def alU:Rk prog 138 [.bool true] w (.int .u32 1):=by
 have H:=Sep.aF w;refine cK func138 ?_;refine Za2 ?_;refine Qn (Cd rfl (λk=>?_) (λk=>?_))
 .refine Zb1 ?_
  exact⟨rfl,H.kept⟩
 exact Bool.noConfusion k
def aeb (hp:(blk b (mI cv wv pv g ov kv o1 o2 o3 fv) 87).ok F w):Aq prog 91 [cellP b 6,.bool true] w λ_ w'=>Turn F (blk b (mI cv wv pv g ov kv 1 o2 o3 fv) 87) w w':=by
 have H:=Sep.bR hp;refine al9 func91 ?_;refine Dz (λk _ S=>?_);refine Zb4 ?_;refine dB k 4 _ S alU (h:=λS I _=>⟨sT,?_⟩);obtain⟨a,Au⟩: ∃c,c=World.setCell S ⟨b,6,none⟩ (.int .u32 1):=⟨_,rfl⟩;have c:Mw.Sep w F [blk b (mI cv wv pv g ov kv 1 o2 o3 fv) 87] a:=by rw[Au];exact Lg (o:=6) (v:=.int .u32 1) I At0 rfl
 refine an3 k 5 [] (w':=a) (vals:=[cellP b 6,.int .u32 1]) (by rw[Au];exact run_call_store (P:=prog) func137 kR kR kR kR (u:=.int .u32 o1) (by rw[jP (I.obj At0)];rfl) (zW (I.obj At0))) (h:=⟨sT,?_⟩);refine fK k kR ?_;refine Ku (h:=?_);exact⟨[],rfl,c.turn⟩
variable {z:Km} {cols outs:List bY} {p:aU}
def aec (hp:(star (blk b (r9 z p.group kv 0 0 0 .nilFunc) 87) (fQ λw=>lG w z cols p outs)).ok F w) (hn:p.cols.length<=100):
    aR prog 52 [cellP b 6,.func (.func 33) #[ay b] #[]] w λ_ w'=>∃gv:Value,Turn F (star (blk b (r9 z p.group kv 1 0 0 gv) 87) (fQ λw=>lG w z cols p outs/\pR w b gv p)) w w':=by
  have H:=(Sep.bR hp).bL;unfold r9 at H;refine al7 func52 ?_;refine Zb3 ?_;refine NS H At0 (λF' hp _=>ajw hp) (h:=λ_ k=>?_);refine Zb3 ?_;refine XJ (vals:=[cellP b 7]) (h:=?_);refine Kz (BG (k.obj At0)) (λ_ k _=>?_);refine Cz (λS=>?_) (λS=>?_)
  . refine Zb3 ?_
    refine XJ (vals:=[cellP b 6,.bool true]) (h:=?_);refine Zb1 ?_;obtain⟨F0,vN,_,aK⟩:=(k.aQ).focus At0;refine eP (fs:=[ay b]) (cs:=[]) (vals:=[]) rfl (Z6 (z:=z) (cols:=cols) (p:=p) (outs:=outs) vN hn) rfl rfl (λv' _ hv=>?_);obtain⟨gv,lI,F1,lq,k⟩:=hv;have I:=(aK _ F1 _ lI lq k).bL;refine xK (XI (h:=?_));obtain⟨F0,vN,_,aK⟩:=I.focus At0;unfold r9 at vN;refine⟨[],rfl,Rn (Aq.mono (aeb vN) λv1 _ RH=>?_)⟩;obtain⟨lI,F1,lq,k⟩:=RH;obtain⟨F2,aiu,_,Yu⟩:=(aK _ F1 _ lI lq k).focus At0;refine Rn (Aq.mono (Z7 aiu) λv2 _ hv2=>?_);obtain⟨hk2,F3,p8,k⟩:=hv2;exact⟨gv,(Yu _ F3 _ hk2 p8 k).aQ.turn⟩
  exact zar S sM
def agZ (hp:(star (blk b (r9 z p.group kv 0 0 0 .nilFunc) 87) (fQ λw=>lG w z cols p outs)).ok F w) (hn:p.cols.length<=100):
    aR prog 32 [cellP b 6,.func (.func 33) #[ay b] #[]] w λ_ w'=>∃gv:Value,Turn F (star (blk b (r9 z p.group kv 1 0 0 gv) 87) (fQ λw=>lG w z cols p outs/\pR w b gv p)) w w':=by
  have H:=Sep.bR hp;refine bQ func32 ?_;refine Kz (BG (H.bL.obj At0)) (λ_ k _=>?_);refine Cz (λS=>?_) (λS=>?_)
  . refine Zb2 ?_
    obtain⟨F0,vN,_,aK⟩:=k.focus At0;refine aL (aec vN hn) rfl rfl (λv' _ hv=>?_);obtain⟨gv,lI,F1,lq,k⟩:=hv;have I:=aK _ F1 _ lI lq k;refine Zb0 ?_;exact⟨gv,I.turn⟩
  exact zar S sM
def ajx {E:Td} {f:Value} (hb:gM w b (r9 z p.group kv 1 o2 o3 fv) E):aR prog 32 [cellP b 6,f] w λ_ w'=>Kept noB w w':=by
 have H:=Sep.aF w;refine bQ func32 ?_;refine Kz (BG (hb.keep H.kept)) (λ_ k _=>?_);refine Cz (λS=>?_) (λS=>?_)
 .exact zar S sM
 refine Zb0 ?_;exact k.kept
def alV (hp:(star (blk b (r9 z p.group kv o1 0 0 fv) 87) (fQ λw=>lG w z cols p outs/\((o1=0/\fv=.nilFunc)\/(o1=1/\pR w b fv p)))).ok F w) (hn:p.cols.length<=100):
    aR prog 32 [cellP b 6,.func (.func 33) #[ay b] #[]] w λ_ w'=>∃gv:Value,Turn F (star (blk b (r9 z p.group kv 1 0 0 gv) 87) (fQ λw=>lG w z cols p outs/\pR w b gv p)) w w':=by
  have H:=(Sep.bR hp).bL
  rcases (Sep.sees H At1).2 with⟨rfl,rfl⟩ | ⟨rfl,_⟩
  . have k:=(Sep.qF (Y:=λw=>lG w z cols p outs) H At1 λw h=>h.1).aQ
    obtain⟨F0,vN,_,aK⟩:=k.focus At0;refine aR.mono (agZ vN hn) λv w' hv=>?_;obtain⟨gv,lI,F1,lq,S⟩:=hv;exact⟨gv,(aK _ F1 _ lI lq S).turn⟩
  have k:=(Sep.qF (Y:=λw=>lG w z cols p outs/\pR w b fv p) H At1 λw h=>⟨h.1,h.2.elim (λh=>zar h.1 dC) λh=>h.2⟩);exact aR.mono (ajx (z:=z) (p:=p) (kv:=kv) (k.obj At0)) λv w' hk=>⟨fv,(k.keep hk).aQ.turn⟩
def qh (h:(bX cols p).2=0):1<=p.cols.length/\p.cols.length<=16/\ -1<=p.group/\p.group<=p.cols.length:=by
 cases hn:j3 p with
 | true=>exact(ru hn).1
 | false=>unfold bX at h;rw[zac hn]at h;exact zar h dC
def CY {T:Td} (hT: ∀(b:Nat) (w:Wd),(Instr.makeInterface T (.pointer (some ⟨b,0,none⟩))).run prog w=.ok (.iface T (.pointer (some ⟨b,0,none⟩))) w) {ρ:Od->Value} {ty:Td} {x:Od} (hx:ρ x=ay b):Gives prog ρ (.makeInterface T x) ty w (.iface T (ay b)) w:=
 Gives.aaf (hT b) hx
def BH (b:Nat) (w:Wd):(Instr.makeInterface 68 (.pointer (some ⟨b,0,none⟩))).run prog w=.ok (.iface 68 (.pointer (some ⟨b,0,none⟩))) w:=by kernel_rfl
def Ph (b:Nat) (w:Wd):(Instr.makeInterface 91 (.pointer (some ⟨b,0,none⟩))).run prog w=.ok (.iface 91 (.pointer (some ⟨b,0,none⟩))) w:=by kernel_rfl
variable {w0:Wd} {S:NP} {rs:List HP}
def aed {n E:Nat} (e:(n:Int)=g) (H:Mw.Sep w0 S (blk b [v,I g] E::rs) w):Mw.Sep w0 S (blk b [v,I (n:Int)] E::rs) w:=by rw[e];exact H
def yR {z:Km} {T:List aH} (H:Mw.Sep w0 S (blk b (r9 z p.group kv o1 0 0 fv) 87::sj kv p T::fQ (λw=>lG w z cols p (bX cols p).1/\((o1=0/\fv=.nilFunc)\/(o1=1/\pR w b fv p)))::rs) w):Mw.Sep w0 S (qW b cols p T::rs) w:=
 Sep.uF (p:=λx:Km×Value×Int×Value=>star (blk b (r9 x.1 p.group x.2.1 x.2.2.1 0 0 x.2.2.2) 87) (star (sj x.2.1 p T) (fQ λw=>lG w x.1 cols p (bX cols p).1/\((x.2.2.1=0/\x.2.2.2=.nilFunc)\/(x.2.2.1=1/\pR w b x.2.2.2 p))))) (z,kv,o1,fv) (H.aN.aN.aQ.aG.aQ)
def Nw {T:List aH} (H:Mw.Sep w0 S (qW b cols p T::rs) w): ∃(z:Km) (kv fv:Value) (o1:Int),Mw.Sep w0 S (blk b (r9 z p.group kv o1 0 0 fv) 87::sj kv p T::fQ (λw=>lG w z cols p (bX cols p).1/\((o1=0/\fv=.nilFunc)\/(o1=1/\pR w b fv p)))::rs) w:=by
 obtain⟨⟨z,kv,o1,fv⟩,k⟩:=Sep.ex0 H;exact⟨z,kv,fv,o1,k.bL.aG.bL.aN⟩
def xR {tv:Value} {T:List aH} (hg:p.group<0) (H:Mw.Sep w0 S (blk b [tv] 70::Bq tv (dh T).1::rs) w):Mw.Sep w0 S (sj (.iface 68 (ay b)) p T::rs) w:=by
 unfold sj;rw[zac hg];exact Sep.uF (p:=λx:Nat×Value=>star (jB (Value.iface 68 (ay b)=.iface 68 (ay x.1))) (star (blk x.1 [x.2] 70) (Bq x.2 (dh T).1))) (b,tv) (Sep.aQ (Sep.lu rfl H.aQ))
def xS {b bg bh:Nat} {T:List aH} (hg: ¬p.group<0) (H:Mw.Sep w0 S (blk b [ay bg,I (p.group.toNat:Nat)] 93::star (blk bg (qR p.group.toNat (p.cols.length-p.group.toNat) bh) 118) (FV bh (p.cols.length-p.group.toNat) (T.map (eY p.group.toNat)))::rs) w):Mw.Sep w0 S (sj (.iface 91 (ay b)) p T::rs) w:=by
 unfold sj;rw[zab hg];exact Sep.uF (p:=λx:Nat×Nat×Nat=>star (jB (Value.iface 91 (ay b)=.iface 91 (ay x.1))) (star (blk x.1 [ay x.2.1,I (p.group.toNat:Nat)] 93) (star (blk x.2.1 (qR p.group.toNat (p.cols.length-p.group.toNat) x.2.2) 118) (FV x.2.2 (p.cols.length-p.group.toNat) (T.map (eY p.group.toNat)))))) (b,bg,bh) (Sep.aQ (Sep.lu rfl H.aQ))
theorem ajy {vp:Value} (hc:aJ w vc aP 7 cols) (LA:cols.length<=1000) (hp:gX w vp p) (Ai:aZ p.wh) (vM: ∀o∈p.cols,aZ o.steps) (hn:p.cols.length<=100) (Au:p.wh.length<=1000) (OP: ∀o∈p.cols,o.steps.length<=1000) (hT:iB w):
    aR prog 11 [vc,vp] w λu w'=>((bX cols p).2≠0->u=.tuple #[.pointer none,I (bX cols p).2]/\Kept noB w w')/\((bX cols p).2=0->∃b:Nat,u=.tuple #[ay b,I 0]/\Turn noB (qW b cols p []) w w'):=by
  have eD:=hp;obtain⟨vw,vq,rfl,hw,r,hr,eF⟩:=hp;obtain⟨W,cw,rfl,_,_⟩:=id hw;obtain⟨A,m,rfl,_,_⟩:=id hr;have zi:=eF.len;have H:=Sep.aF w;refine bQ func11 ?_;refine Sr (bB H (cs:=[.slice W p.wh.length cw,.slice A r.length m,I p.group]) rfl (h:=λb3 _ k _=>?_));refine Zb3 ?_;refine fE k (cs:=[.slice W p.wh.length cw,.slice A r.length m,I p.group]) (h:=?_);refine Nz (adv (hc.keep k.kept) (eD.keep k.kept) Ai vM oM (hT.keep k.kept)) (λvo _ _ k _=>?_);obtain⟨O,co,rfl,_,_⟩:=Sep.bJ k At0;refine Cz (λS=>?_) (λS=>?_)
  . have c:=S
    refine Zb3 ?_;exact⟨λ_=>⟨rfl,k.kept⟩,λh=>zar h c⟩
  have dX:(bX cols p).2=0:=Decidable.of_not_not S;have RJ:=qh dX;refine Sk (dD (λx:(OA×Nat)×(OA×Nat)×(OA×Nat)×List (L8×Value)×Nat×Nat=>[(3,ay b3),(8,ay x.2.2.2.2.2)]) (λx w'=>Mw.Sep w noB [blk x.2.2.2.2.2 (mI (.slice x.1.1 cols.length x.1.2) (.slice x.2.1.1 p.wh.length x.2.1.2) (.slice x.2.2.1.1 x.2.2.2.1.length x.2.2.1.2) p.group (.slice O (bX cols p).1.length co) (.iface 68 (ay x.2.2.2.2.1)) 0 0 0 .nilFunc) 87,blk x.2.2.2.2.1 [.slice none 0 0] 70,(fQ λw=>nV w (.slice x.2.1.1 p.wh.length x.2.1.2) (.slice x.2.2.1.1 x.2.2.2.1.length x.2.2.1.2) x.2.2.2.1 p),aY 67 7 aP (.slice x.1.1 cols.length x.1.2) cols,aY 67 7 aP (.slice O (bX cols p).1.length co) (bX cols p).1,blk b3 [.slice W p.wh.length cw,.slice A r.length m,I p.group] 26] w') ?_ ?_)
  . refine Dz (λc _ S=>?_)
    refine Zb1 ?_;refine jM c 2 S (h:=?_);refine Gm c 4 ?_;refine Gb c 5 [.slice none 0 0] ?_;refine j4 c (e1:=1) (e2:=6) kR ?_ ?_
    . refine mO c 1 [(5,true),(4,true),(2,false)] S (FH (hc.keep S.kept) LA) (h:=λy _ _ k _=>?_)
      obtain⟨Y,cy,rfl,_,_⟩:=Sep.bJ k At0;refine⟨sU,?_⟩;refine j4 c (e1:=3) (e2:=6) kR ?_ ?_
      . refine mO c 3 _ k (Jw (eD.keep k.kept) hn Au OP) (h:=λy _ _ d _=>?_)
        obtain⟨wv,pv,q⟩:=y;dsimp only at d ⊢;have hPA:nV _ wv pv q p:=Sep.sees d At0;obtain⟨WV,cwv,rfl,_,_⟩:=hPA.1;obtain⟨PV,cpv,rfl,_,_⟩:=hPA.2.1;refine⟨sT,?_⟩;refine Ni c 6 _ d (cs:=[.slice none 0 0]) rfl rfl (h:=λbp _ d=>⟨sT,?_⟩);refine Gp c 7 rfl rfl (λ_=>(CY BH rfl)) (Gp c 8 rfl rfl (λ_=>(Gives.build (out:=mI (.slice Y cols.length cy) (.slice WV p.wh.length cwv) (.slice PV q.length cpv) p.group (.slice O (bX cols p).1.length co) (.iface 68 (ay bp)) 0 0 0 .nilFunc) (Fills.one rfl rfl rfl sM rfl (Fills.many rfl rfl (zbe rfl) rfl (Fills.one rfl rfl rfl (zbe rfl) rfl (Fills.one rfl rfl rfl (zbe rfl) rfl Fills.nil)))))) ?_);refine Ni c 9 _ d (cs:=mI (.slice Y cols.length cy) (.slice WV p.wh.length cwv) (.slice PV q.length cpv) p.group (.slice O (bX cols p).1.length co) (.iface 68 (ay bp)) 0 0 0 .nilFunc) rfl rfl (h:=λb _ d=>⟨sT,?_⟩);refine Zb1 ?_
        first
        | exact au ((Y,cy),(WV,cwv),(PV,cpv),q,bp,b) tR d
        | exact au ((Y,cy),(WV,cwv),(PV,cpv),q,bp,b) tR d.aN.aX.aX.aX
        | exact au ((Y,cy),(WV,cwv),(PV,cpv),q,bp,b) tR d.aX.aN.aX.aX
        | exact au ((Y,cy),(WV,cwv),(PV,cpv),q,bp,b) tR d.aN.aN.aX.aX
        | exact au ((Y,cy),(WV,cwv),(PV,cpv),q,bp,b) tR d.aG.aX.aX.aX
        | exact au ((Y,cy),(WV,cwv),(PV,cpv),q,bp,b) tR d.aG.aN.aX.aX
      refine Xb c 6 [(4,true),(2,false)] k (cs:=[.slice none 0 0]) rfl rfl (h:=λbp _ d=>⟨sU,?_⟩);refine Gp c 7 rfl rfl (λ_=>(CY BH rfl)) (dY c 3 _ d (Jw (eD.keep d.kept) hn Au OP) (h:=λy _ _ d _=>?_));obtain⟨wv,pv,q⟩:=y;dsimp only at d ⊢;have hPA:nV _ wv pv q p:=Sep.sees d At0;obtain⟨WV,cwv,rfl,_,_⟩:=hPA.1;obtain⟨PV,cpv,rfl,_,_⟩:=hPA.2.1;refine⟨sT,?_⟩;refine Gp c 8 rfl rfl (λ_=>(Gives.build (out:=mI (.slice Y cols.length cy) (.slice WV p.wh.length cwv) (.slice PV q.length cpv) p.group (.slice O (bX cols p).1.length co) (.iface 68 (ay bp)) 0 0 0 .nilFunc) (Fills.one rfl rfl rfl sM rfl (Fills.many rfl rfl (zbe rfl) rfl (Fills.one rfl rfl rfl (zbe rfl) rfl (Fills.one rfl rfl rfl (zbe rfl) rfl Fills.nil)))))) (Ni c 9 _ d (cs:=mI (.slice Y cols.length cy) (.slice WV p.wh.length cwv) (.slice PV q.length cpv) p.group (.slice O (bX cols p).1.length co) (.iface 68 (ay bp)) 0 0 0 .nilFunc) rfl rfl (h:=λb _ d=>⟨sT,?_⟩));refine Zb1 ?_
      first
      | exact au ((Y,cy),(WV,cwv),(PV,cpv),q,bp,b) tR d
      | exact au ((Y,cy),(WV,cwv),(PV,cpv),q,bp,b) tR d.aN.aX.aX.aX
      | exact au ((Y,cy),(WV,cwv),(PV,cpv),q,bp,b) tR d.aX.aN.aX.aX
      | exact au ((Y,cy),(WV,cwv),(PV,cpv),q,bp,b) tR d.aN.aN.aX.aX
      | exact au ((Y,cy),(WV,cwv),(PV,cpv),q,bp,b) tR d.aG.aX.aX.aX
      | exact au ((Y,cy),(WV,cwv),(PV,cpv),q,bp,b) tR d.aG.aN.aX.aX
    refine Xb c 6 [(4,true),(2,false),(0,true)] S (cs:=[.slice none 0 0]) rfl rfl (h:=λbp _ d=>⟨sU,?_⟩);refine Gp c 7 rfl rfl (λ_=>(CY BH rfl)) (dY c 1 [(7,true),(4,true),(2,false)] d (FH (hc.keep d.kept) LA) (h:=λy _ _ d _=>?_));obtain⟨Y,cy,rfl,_,_⟩:=Sep.bJ d At0;refine⟨sU,?_⟩;refine dY c 3 _ d (Jw (eD.keep d.kept) hn Au OP) (h:=λy _ _ d _=>?_);obtain⟨wv,pv,q⟩:=y;dsimp only at d ⊢;have hPA:nV _ wv pv q p:=Sep.sees d At0;obtain⟨WV,cwv,rfl,_,_⟩:=hPA.1;obtain⟨PV,cpv,rfl,_,_⟩:=hPA.2.1;refine⟨sT,?_⟩;refine Gp c 8 rfl rfl (λ_=>(Gives.build (out:=mI (.slice Y cols.length cy) (.slice WV p.wh.length cwv) (.slice PV q.length cpv) p.group (.slice O (bX cols p).1.length co) (.iface 68 (ay bp)) 0 0 0 .nilFunc) (Fills.one rfl rfl rfl sM rfl (Fills.many rfl rfl (zbe rfl) rfl (Fills.one rfl rfl rfl (zbe rfl) rfl (Fills.one rfl rfl rfl (zbe rfl) rfl Fills.nil)))))) (Ni c 9 _ d (cs:=mI (.slice Y cols.length cy) (.slice WV p.wh.length cwv) (.slice PV q.length cpv) p.group (.slice O (bX cols p).1.length co) (.iface 68 (ay bp)) 0 0 0 .nilFunc) rfl rfl (h:=λb _ d=>⟨sT,?_⟩));refine Zb1 ?_
    first
    | exact au ((Y,cy),(WV,cwv),(PV,cpv),q,bp,b) tR d
    | exact au ((Y,cy),(WV,cwv),(PV,cpv),q,bp,b) tR d.aN.aX.aX.aX
    | exact au ((Y,cy),(WV,cwv),(PV,cpv),q,bp,b) tR d.aX.aN.aX.aX
    | exact au ((Y,cy),(WV,cwv),(PV,cpv),q,bp,b) tR d.aN.aN.aX.aX
    | exact au ((Y,cy),(WV,cwv),(PV,cpv),q,bp,b) tR d.aG.aX.aX.aX
    | exact au ((Y,cy),(WV,cwv),(PV,cpv),q,bp,b) tR d.aG.aN.aX.aX
  rintro⟨⟨Y,cy⟩,⟨WV,cwv⟩,⟨PV,cpv⟩,q,bp,b⟩ τ d d;dsimp only at d;have d:=dU d At3;have d:=dU d At4;have d:=Sep.l6 (Z:=λw=>aJ w (.slice Y cols.length cy) aP 7 cols/\nV w (.slice WV p.wh.length cwv) (.slice PV q.length cpv) q p) d.aN.aX (λw a b=>⟨a,b⟩);have d:=Sep.l6 (Z:=λw=>lG w ⟨.slice Y cols.length cy,.slice WV p.wh.length cwv,.slice PV q.length cpv,.slice O (bX cols p).1.length co,q⟩ cols p (bX cols p).1/\(((0:Int)=0/\Value.nilFunc=.nilFunc)\/((0:Int)=1/\pR w b .nilFunc p))) d.aX.akO (λw a b=>⟨⟨a.1,a.2,b⟩,.inl ⟨rfl,rfl⟩⟩);refine Lp ?_;refine Cz (λc=>?_) (λc=>?_)
  . have hg: ¬p.group<0:=oM
    refine Zb7 ?_;refine Vc ((p.cols.length-p.group.toNat:Nat):Int) ?_;have hgn:(p.group.toNat:Int)=p.group:=zcp oM;refine aL (adW p.group ((p.cols.length-p.group.toNat:Nat):Int)) rfl rfl (λv' _ hv=>?_);obtain⟨⟨bg,bh⟩,rfl,lI,F1,lq,c⟩:=hv.2 ⟨oM,oM,oM,oM⟩;have S:=(d.new lI lq (λb hb=>(c b hb).resolve_left id)).bL;rw[zdq]at S;refine Cz (λc=>?_) (λc=>?_)
    . exact zar rfl c
    refine Zb4 ?_;refine Vb [ay bg,I p.group] ?_;refine bB S (cs:=[ay bg,I p.group]) rfl (h:=λbk _ _ _=>?_);refine dw (CY Ph rfl) rfl ?_;refine Uz (λ_ c=>?_);refine Zb3 ?_;exact⟨λh=>zar dX h,λ_=>⟨b,rfl,by
    have h1:=yO (L:=[]) (Sep.qE (X:=λw=>gI w []) c.aN (λw s hs=>zar hs zan)) (adZ (p.cols.length-p.group.toNat));have h2:=h1.aN.aQ.aG;have h4:=xS (T:=[]) hg (aed hgn h2);exact(yR (z:=⟨.slice Y cols.length cy,.slice WV p.wh.length cwv,.slice PV q.length cpv,.slice O (bX cols p).1.length co,q⟩) h4.aN).first.turn⟩⟩
  have hg:p.group<0:=oM;refine Zb3 ?_;exact⟨λh=>zar dX h,λ_=>⟨b,rfl,by
  have h1:=xR (T:=[]) hg ((Sep.qE (X:=λw=>dI w (.slice none 0 0) (dh []).1) d.aN (λw=>⟨[],qd _ _ _,gL.nil⟩)).aG);exact(yR (z:=⟨.slice Y cols.length cy,.slice WV p.wh.length cwv,.slice PV q.length cpv,.slice O (bX cols p).1.length co,q⟩) h1.aN).first.turn⟩⟩
variable {r:List aC} {vr:Value}
def abM {b1 bs b:Nat} {cs:LV} {E1 E E2:Td} {sv:Value} {cols:List bY} {l:List bI} (h1:gM w b1 [ay b] E1) (hb:gM w b (cv::cs) E) (hs:gM w bs [sv] E2) (hc:aJ w cv aP 7 cols) (hl:aJ w sv aM 3 l) (hr:aJ w vr ah 3 r) (hf:jw r) (hx:aZ l) (hT:iB w):
    Rk prog 54 [vr,ay b1,ay bs] w (.tuple #[agg (ah (mJ cols l r).1),I (mJ cols l r).2]):=by
  have H:=Sep.aF w;refine zX func54 ?_;refine Az (λb4 _ _ _=>?_);refine Dz (λk _ S=>?_);refine G0 (Gt rfl (Gives.mW rfl (h1.keep S.kept) rfl) ?_);refine Zb2 ?_;refine GS (Gt rfl (Gives.mW rfl (hb.keep S.kept) rfl) ?_);refine GS (Gt rfl (Gives.mW rfl (hs.keep S.kept) rfl) ?_);refine Zb1 ?_;refine dB k 6 _ S (afx (hc.keep S.kept) (hl.keep S.kept) (hr.keep S.kept) hf hx (hT.keep S.kept).utf) (h:=λ_ S _=>⟨sT,?_⟩);refine Zb2 ?_;refine bN k 9 _ S (us:=ah (mJ cols l r).1) (h:=λ_ S=>⟨sT,?_⟩);refine Zb1 ?_;exact⟨_,bE S,rfl,S.kept⟩
def ag0 (vr:Value):Rk prog 56 [vr] w (.tuple #[agg (ah ⟨false,1,[]⟩),I 0]):=by
 have H:=Sep.aF w;refine oV func56 ?_;refine Az (λb2 _ _ _=>?_);refine Zb1 ?_;refine Vb (ah ⟨false,1,[]⟩) ?_;refine Tz (λ_ k=>?_);refine Zb1 ?_;exact⟨_,bE k,rfl,k.kept⟩
def Ra {b1 b:Nat} {cs:LV} {E1 E:Td} {pf:Value} {cols:List bY} {l:List bI} (RG:mM w b1 pf l) (h1:gM w b1 [ay b] E1) (hb:gM w b (cv::cs) E) (hc:aJ w cv aP 7 cols) (hr:aJ w vr ah 3 r) (hf:jw r) (hx:aZ l) (hT:iB w):
    ∃(f:FuncId) (us:LV),pf=.func (.func f) #[] us.toArray/\qm prog f/\Rk prog f ([]++[vr]++us) w (.tuple #[agg (ah (qV cols l r).1),I (qV cols l r).2]):=by
  unfold mM at RG;unfold qV
  by_cases e:l=[]
  . rw[zac e]at RG |-
    subst RG;exact⟨_,[],rfl,eT,ag0 vr⟩
  rw[zab e]at RG ⊢;obtain⟨bs,sv,rfl,hs,hsv⟩:=RG;exact⟨_,[ay b1,ay bs],rfl,eT,abM h1 hb hs hc hsv hr hf hx hT⟩
def Ny {l:List nO} {o:nO} (h:(fC cols r l).2=0):fC cols r (l++[o])=if(mJ cols o.steps r).2≠0 then([],(mJ cols o.steps r).2)else((fC cols r l).1++[(mJ cols o.steps r).1],0):=by
 induction l with
 | nil=>
  show(if(mJ cols o.steps r).2≠0 then([],(mJ cols o.steps r).2)else if(0:Int)≠0 then([],0)else([(mJ cols o.steps r).1],0))=_
  split
  .rfl
  rfl
 | cons x l ih=>
  rw[fC]at h;rw[zcd,fC,fC]
  split at h
  .rename_i h1;exact zar h h1
  rename_i h1;rw[zab h1,zab h1]
  split at h
  .rename_i h2;exact zar h h2
  rename_i h2;rw[zab h2,ih (Decidable.of_not_not h2)]
  split
  .rename_i h3;first | rfl | rw[zac h3]
  rename_i h3;rw[zab (λh=>h rfl)];rfl
def Rb {l m:List nO} (h:(fC cols r l).2≠0):fC cols r (l++m)=([],(fC cols r l).2):=by
 induction l with
 | nil=>exact zar rfl h
 | cons x l ih=>
  rw[fC]at h;rw[zcd,fC,fC]
  split at h
  .rename_i h1;rw[zac h1,zac h1]
  rename_i h1;rw[zab h1,zab h1]
  split at h
  .rename_i h2
   rw[zac h2,ih h2,zac h2]
  exact zar rfl h
theorem ag1 {b b1 bp b4:Nat} {cs:LV} {E:Td} {pf gv:Value} {gl:LV} {cols:List bY} {p:aU} {r:List aC} {T1 T2 T3:Td} (h1:gM w b1 [ay b] T1) (hbp:gM w bp [pf] T2) (RG:mM w b1 pf p.wh) (hb4:gM w b4 [gv] T3) (hgv:aJ w gv Nv 1 gl) (JQ:oJ w b1 gl p.cols)
    (hb:gM w b (cv::cs) E) (hc:aJ w cv aP 7 cols) (hr:aJ w vr ah 3 r) (hf:jw r) (Ai:aZ p.wh) (vM: ∀o∈p.cols,aZ o.steps) (hn:p.cols.length<=100) (hT:iB w):
    aR prog 57 [vr,ay b1,ay bp,ay b4] w λu w'=>∃x:Value,u=.tuple #[x,.bool (gK cols p r).2.1,I (gK cols p r).2.2]/\True/\Turn noB (aY 41 3 ah x (gK cols p r).1) w w':=by
  have H:=Sep.aF w;obtain⟨G,cG,rfl,⟨hcG,avl⟩,hG⟩:=hgv;have avm:=JQ.1;obtain⟨fp,us,rfl,EG,_⟩:=Ra RG h1 hb hc hr hf Ai hT;refine yg func57 ?_;refine Zb3 ?_;refine dM (h1.keep H.kept) (h:=?_);refine Zb2 ?_;refine dM (hb.keep H.kept) (h:=?_);refine Mv ?_;refine Kz (Fb (hc.keep H.kept) (hr.keep H.kept) hf (hT.keep H.kept).utf) (λ_ k _=>?_);refine Cz (λS=>?_) (λS=>?_)
  . have ak:gK cols p r=([],false,fH cols r):=by unfold gK;rw[zac S]
    refine Zb4 ?_;exact⟨.slice none 0 0,by rw[ak];rfl,trivial,by rw[ak];exact(Sep.iW k 41 3 ah).turn⟩
  have Yy:=S;refine Zb0 ?_;refine dM (hbp.keep k.kept) (h:=?_);refine Mv ?_;obtain⟨fp2,us2,U0,asq,qP⟩:=Ra (b:=b) (cols:=cols) (mM.keep RG k.kept) (h1.keep k.kept) (hb.keep k.kept) (hc.keep k.kept) (hr.keep k.kept) hf Ai (hT.keep k.kept);refine eP (he:=asq) (fs:=[]) (cs:=us2) (vals:=[vr]) U0 qP rfl rfl (λv' _ hv=>?_);obtain⟨rfl,bZ⟩:=hv;have S:=k.keep bZ;obtain⟨pc,rH⟩: ∃pc,pc=qV cols p.wh r:=⟨_,rfl⟩;rw[<-rH];refine Az (λb9 _ _ _=>?_);refine Tz (λ_ S=>?_);refine Sz (λk=>?_) (λk=>?_)
  . refine Zb7 ?_
    have ak:gK cols p r=([],false,pc.2):=by
      unfold gK;rw[zab Yy,<-rH,zac];exact .inl (by assumption)
    exact⟨.slice none 0 0,by rw[ak];rfl,trivial,by rw[ak];exact(Sep.iW S 41 3 ah).first.turn⟩
  refine Zb4 ?_;refine dH (t:=35) rfl (λk=>?_) (λk=>?_)
  . refine Zb5 ?_
    have ak:gK cols p r=([],false,pc.2):=by
      unfold gK;rw[zab Yy,<-rH,zac];exact .inr (.inl (by assumption))
    exact⟨.slice none 0 0,by rw[ak];rfl,trivial,by rw[ak];exact(Sep.iW S 41 3 ah).first.turn⟩
  refine Cz (λk=>?_) (λk=>?_)
  . refine Zb4 ?_
    have ak:gK cols p r=([],false,pc.2):=by
      unfold gK;rw[zab Yy,<-rH,zac];exact .inr (.inr (by assumption))
    exact⟨.slice none 0 0,by rw[ak];rfl,trivial,by rw[ak];exact(Sep.iW S 41 3 ah).first.turn⟩
  refine Zb0 ?_;have acn: ¬(pc.2≠0\/pc.1.null=true\/pc.1.n=0):=by simp_all
  refine dM (hb4.keep S.kept) (h:=?_);refine Zb2 ?_;refine aI (λx:(OA×Nat)×Nat=>[(0,vr),(5,.slice x.1.1 (fC cols r (p.cols.take x.2)).1.length x.1.2),(6,.bool false),(7,I pc.2),(41,.slice G gl.length cG),(42,I gl.length),(43,I x.2)]) (λx w'=>(x.2<=gl.length/\(fC cols r (p.cols.take x.2)).2=0/\(fC cols r (p.cols.take x.2)).1.length<=x.2)/\Mw.Sep w noB [aY 41 3 ah (.slice x.1.1 (fC cols r (p.cols.take x.2)).1.length x.1.2) (fC cols r (p.cols.take x.2)).1] w') (λx _=>gl.length-x.2) ((none,0),0) tR ⟨⟨zak _,rfl,zbj _⟩,(Sep.iW S 41 3 ah).first⟩ (λx τ _ hI=>?_);obtain⟨⟨X,cX⟩,i⟩:=x;obtain⟨⟨hi,k,UZ⟩,S⟩:=hI;dsimp only at hi k UZ S;refine Lp ?_;refine Cz (λa=>?_) (λa=>?_)
  . have aS:i<gl.length:=oM
    obtain⟨g,hg⟩:=get_some aS;obtain⟨o,ho⟩:=get_some (l:=p.cols) (show i<p.cols.length from oM);obtain⟨bs,sv,rfl,hbs,hsv⟩:=JQ.2 i g o hg ho;have xY:p.cols.take (i+1)=p.cols.take i++[o]:=by rw[zay,ho,zcw]
    have hcs:=Ny (o:=o) k;rw[<-xY]at hcs;obtain⟨ev,hev⟩: ∃ev,ev=mJ cols o.steps r:=⟨_,rfl⟩;rw[<-hev]at hcs;refine Zb0 ?_;refine Vv (Gives.fF rfl rfl hG aS) (Vv (Gives.dz (f:=0) rfl (Sep.aF _) (hG.keep S.kept) hg rfl) ?_);refine Zb3 ?_;refine eP (fs:=[]) (cs:=[ay b1,ay bs]) (vals:=[vr]) rfl (abM (b:=b) (cols:=cols) (l:=o.steps) (h1.keep S.kept) (hb.keep S.kept) (hbs.keep S.kept) (hc.keep S.kept) (hsv.keep S.kept) (hr.keep S.kept) hf (vM o (zag ho)) (hT.keep S.kept)) rfl rfl (λv' _ hv=>?_);obtain⟨rfl,bZ⟩:=hv;have a:=S.keep bZ;rw[<-hev];refine Az (λb12 _ _ _=>?_);refine Tz (λ_ a=>?_);refine Cz (λc=>?_) (λc=>?_)
    . rw[zac c]at hcs
      have OO:(fC cols r (p.cols.take (i+1))).2≠0:=by rw[hcs];exact c
      have OL:=Rb (m:=p.cols.drop (i+1)) OO;rw[zbs,hcs]at OL
      have ak:gK cols p r=([],false,ev.2):=by
        unfold gK;rw[zab Yy,<-rH,zab acn,OL,zac c]
      refine Zb4 ?_;exact⟨.slice none 0 0,by rw[ak];rfl,trivial,by rw[ak];exact(Sep.iW a 41 3 ah).first.turn⟩
    rw[zab c]at hcs;refine Zb1 ?_;refine fE a (cs:=ah ev.1) (h:=?_);refine Bs a ([ev.1].flatMap ah) (λbq _ c _=>?_);refine dG c (news:=[ev.1]) At1 (by unfold maxLen;simp only[zae];omega) (by simp only[zae];omega) (cells_one (λ_=>rfl) _) (h:=?_);intro v59 c c;rw[show(fC cols r (p.cols.take i)).1++[ev.1]=(fC cols r (p.cols.take (i+1))).1 by rw[hcs]]at c;obtain⟨X2,cX2,rfl,_,_⟩:=Sep.bJ c At1;refine Zb1 ?_;refine Vc ((i+1:Nat):Int) ?_;refine Zb1 ?_;exact aj ((X2,cX2),i+1) tR ⟨⟨dO,by dsimp only;rw[hcs],by dsimp only;rw[hcs];dsimp only;rw[zad,zae];omega⟩,c.bH⟩ dO
  have jF:p.cols.take i=p.cols:=zaj oM;rw[jF]at k S
  have ak:gK cols p r=((fC cols r p.cols).1,true,0):=by
    unfold gK;rw[zab Yy,<-rH,zab acn,zab (λh=>h k)]
  refine Zb4 ?_;exact⟨_,by rw[ak];rfl,trivial,by rw[ak,jF];exact S.turn⟩
end Go.Proofs.Mw
