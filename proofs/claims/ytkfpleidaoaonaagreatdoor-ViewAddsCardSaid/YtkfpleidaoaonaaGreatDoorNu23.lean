/-
 A view as pieces:what it holds,what makes a row. No program stands here.
-/
import Derived.Test.YtkfpleidaoaonaaGreatDoorNu1
import Derived.Test.YtkfpleidaoaonaaGreatDoorNu22
import Derived.Test.YtkfpleidaoaonaaGreatDoorNu21
import Derived.Test.YtkfpleidaoaonaaGreatDoorNu3
import Derived.Test.YtkfpleidaoaonaaGreatDoorNu2
import Derived.Test.YtkfpleidaoaonaaGreatDoorNu13
import Derived.Laws.LoneSync
import Derived.Test.YtkfpleidaoaonaaGreatDoorNu20
import Derived.Test.YtkfpleidaoaonaaGreatDoorNu19
set_option linter.unusedVariables false
set_option linter.unusedSimpArgs false
namespace Go.Proofs.YtkfpleidaoaonaaGreatDoor
open Go Go.Mw Go.Lib
set_option maxRecDepth 4000
def uQ (w:Wd) (vw vc:Value) (r:List (L8×Value)) (p:aZ):Prop:=aM w vw aD 3 p.wh/\aM w vc bZ 2 r/\nI w r p.cols
theorem uQ.is {w:Wd} {vw vc:Value} {r:List (L8×Value)} {p:aZ} (h:uQ w vw vc r p):eG w (agg [vw,vc,I p.group]) p:=⟨vw,vc,rfl,h.1,r,h.2.1,h.2.2⟩
theorem uQ.keep {w w':Wd} {vw vc:Value} {r:List (L8×Value)} {p:aZ} (h:uQ w vw vc r p) (hk:Kept noB w w'):uQ w' vw vc r p:=⟨h.1.keep hk,h.2.1.keep hk,h.2.2.keep hk⟩
structure Mh where
 cv:Value
 wv:Value
 pv:Value
 ov:Value
 r:List (L8×Value)
def nQ (w:Wd) (z:Mh) (cols:List bL) (p:aZ) (outs:List bL):Prop:=aM w z.cv aR 7 cols/\uQ w z.wv z.pv z.r p/\aM w z.ov aR 7 outs
def KW (v:Value):LV:=[v]
instance:lY KW 1:=⟨λ_=>rfl⟩
def Tg (w:Wd) (b1:Nat) (g:Value) (l:List bJ):Prop:=∃(bs:Nat) (sv:Value),g=.func (.func 89) #[] #[aA b1,aA bs]/\jo w bs [sv] 23/\aM w sv aD 3 l
def oU (w:Wd) (b1:Nat) (g:Value) (l:List bJ):Prop:=if l=[]then g=.func (.func 91) #[] #[]else Tg w b1 g l
def qX (w:Wd) (b1:Nat) (gl:LV) (l:List jL):Prop:=gl.length=l.length/\∀(i:Nat) g o,gl[i]? =some g->l[i]? =some o->Tg w b1 g o.steps
def VB (w:Wd) (b b1 bp b4:Nat) (p:aZ):Prop:=∃(pf gv:Value) (gl:LV),jo w b1 [aA b] 38/\
 (jo w bp [pf] 153/\oU w b1 pf p.wh)/\(jo w b4 [gv] 157/\aM w gv KW 1 gl)/\qX w b1 gl p.cols
def Mi (b1 bp b4:Nat):Value:=.func (.func 92) #[] #[aA b1,aA bp,aA b4]
def sF (w:Wd) (b:Nat) (fv:Value) (p:aZ):Prop:=∃b1 bp b4:Nat,fv=Mi b1 bp b4/\VB w b b1 bp b4 p
theorem aem {w:Wd} {b b1 bp b4:Nat} {p:aZ} (h:sF w b (Mi b1 bp b4) p):VB w b b1 bp b4 p:=by
 obtain⟨c1,cp,c4,e,h⟩:=h;unfold Mi at e;injection e with _ _ e
 simp[aA]at e;obtain⟨rfl,rfl,rfl⟩:=e;exact h
theorem Tg.keep {w w':Wd} {b1:Nat} {g:Value} {l:List bJ} (h:Tg w b1 g l) (hk:Kept noB w w'):Tg w' b1 g l:=by
 obtain⟨bs,sv,e,h1,h2⟩:=h;exact⟨bs,sv,e,h1.keep hk,h2.keep hk⟩
theorem oU.keep {w w':Wd} {b1:Nat} {g:Value} {l:List bJ} (h:oU w b1 g l) (hk:Kept noB w w'):oU w' b1 g l:=by
 unfold oU at h |-
 split
 .rename_i e;rw[zac e]at h;exact h
 rename_i e;rw[zab e]at h;exact h.keep hk
theorem qX.nil {w:Wd} {b1:Nat}:qX w b1 [] []:=⟨rfl,λi g o h=>by simp at h⟩
theorem qX.push {w:Wd} {b1:Nat} {gl:LV} {l:List jL} {g:Value} {o:jL} (h:qX w b1 gl l) (hg:Tg w b1 g o.steps):qX w b1 (gl++[g]) (l++[o]):=by
 refine⟨by rw[zad,zad,h.1];rfl,λi x y hx hy=>?_⟩
 by_cases hi:i<gl.length
 .rw[zce hi]at hx
  rw[zce (by rw[<-h.1];exact hi)]at hy;exact h.2 i x y hx hy
 rw[zcb oM]at hx;rw[zcb (by rw[<-h.1];omega),<-h.1]at hy
 have h0:i-gl.length=0:=by
  cases hj:i-gl.length with
  | zero=>rfl
  | succ j=>rw[hj]at hx;simp at hx
 rw[h0]at hx hy;injection hx with hx
 injection hy with hy
 subst hx;subst hy;exact hg
def vg (z:Mh) (g:Int) (kv:Value) (o1 o2 o3:Int) (fv:Value):LV:=nP z.cv z.wv z.pv g z.ov kv o1 o2 o3 fv
def vk (kv:Value) (p:aZ) (T:List aH):HP:=
 if p.group<0 then exH λx:Nat×Value=>star (jI (kv=.iface 104 (aA x.1))) (star (blk x.1 [x.2] 106) (Di x.2 (dY T).1))
 else exH λx:Nat×Nat×Nat=>star (jI (kv=.iface 110 (aA x.1))) (star (blk x.1 [aA x.2.1,I (p.group.toNat:Nat)] 112) (star (blk x.2.1 (uF p.group.toNat (p.cols.length-p.group.toNat) x.2.2) 150) (JK x.2.2 (p.cols.length-p.group.toNat) (T.map (fE p.group.toNat)))))
def jq (b:Nat) (cols:List bL) (p:aZ) (T:List aH):HP:=exH λx:Mh×Value×Int×Value=>star (blk b (vg x.1 p.group x.2.1 x.2.2.1 0 0 x.2.2.2) 75) (star (vk x.2.1 p T)
 (iC λw=>nQ w x.1 cols p (bQ cols p).1/\((x.2.2.1=0/\x.2.2.2=.nilFunc)\/(x.2.2.1=1/\sF w b x.2.2.2 p))))
attribute [local irreducible] FW FL FG FGn gu gy dh gH Qfn Gives
section
variable {w:Wd}
theorem KX {p:aZ} {v:Value} (hp:eG w v p) (hn:p.cols.length<=100) (Ei:p.wh.length<=1000) (Je: ∀o∈p.cols,o.steps.length<=1000):aN Tryz.prog 47 [v] w λu w'=>∃x:Value×Value×List (L8×Value),u=agg [x.1,x.2.1,I p.group]/\True/\Turn noB (iC λw=>uQ w x.1 x.2.1 x.2.2 p) w w':=by
 obtain⟨vw,vc,rfl,hw,hc⟩:=hp;obtain⟨r,hr,gW⟩:=hc;have Zw:=hw;obtain⟨W,mw,rfl,⟨hmw,au8⟩,hW⟩:=Zw;obtain⟨A,m,rfl,⟨hm,qo⟩,hA⟩:=hr;have xk:=gW.len;have H:=Sep.aL w;refine sI Tryz.func47 rfl rfl rfl rfl ?_;refine Sr (dz H (cs:=[.slice W p.wh.length mw,.slice A r.length m,I p.group]) rfl (h:=λb1 w2 H2 k1=>?_));refine aW H2 (h:=λb2 w4 H4 k3=>?_);refine Qn (iP (λz:Nat×OA×Nat=>[(1,aA b1),(2,aA b2),(3,aA z.1)]) (λz w'=>Mw.Sep w noB [Kz (.slice z.2.1 p.wh.length z.2.2) aD 3 p.wh,blk z.1 [.slice z.2.1 p.wh.length z.2.2,.slice none 0 0,I p.group] 26,blk b2 [.slice none 0 0,.slice none 0 0,I 0] 26,blk b1 [.slice W p.wh.length mw,.slice A r.length m,I p.group] 26] w') ?_ ?_)
 .refine Ds (λiI w8 H8=>?_)
  refine Zb2 ?_;refine Gp iI 3 rfl rfl (λ_=>(Gives.ou rfl)) (Zb1 ?_);refine jK iI (e1:=2) (e2:=6) kR ?_ ?_
  .refine l9 iI 2 [(4,false),(3,true)] H8 (zP (hw.keep H8.kept) Ei) (h:=λvx wa _ Ha ka=>?_)
   obtain⟨X,cx,rfl,_,_⟩:=Sep.eO Ha At0;refine⟨aY Ha (h:=ah (aK)),?_⟩;refine Gb iI 5 [.slice X p.wh.length cx,.slice none 0 0,I p.group] ?_;refine xE iI 6 [(5,true),(4,false),(3,true)] Ha (h:=λb3 wb Hb=>⟨ah (aY Hb (h:=ah (aK))),?_⟩);refine eH iI 7 _ Hb (h:=λwc Hc=>⟨sT,?_⟩);refine Zb0 ?_;exact aG (b3,X,cx) tR (by first | exact iL Hc At0 | exact iL Hc.aJ At0)
  refine ni iI 6 [(4,false),(3,true),(1,false),(0,true)] H8 (h:=λb3 wd Hd=>⟨aY Hd (h:=ah (aY Hd (h:=ah (aK)))),?_⟩);refine dL iI 2 [(4,false),(3,true)] Hd (zP (hw.keep Hd.kept) Ei) (h:=λvx we _ He kb=>?_);obtain⟨X,cx,rfl,_,_⟩:=Sep.eO He At0;refine⟨aY He (h:=ah (aK)),?_⟩;refine Gb iI 5 [.slice X p.wh.length cx,.slice none 0 0,I p.group] ?_;refine eH iI 7 _ He (h:=λwf Hf=>⟨sT,?_⟩);refine Zb0 ?_;exact aG (b3,X,cx) tR (by first | exact iL Hf At0 | exact iL Hf.aJ At0)
 rintro⟨b3,X,cx⟩ τ wg Hg;dsimp only at Hg;simp only[dA,like,bB,bY];refine Zb4 ?_;have Hh:=Oe (Sep.lZ Hg 94 2 bZ);refine aP (λx:Nat×(OA×Nat)×List (L8×Value)=>[(2,aA b2),(3,aA b3),(13,.slice A r.length m),(14,I r.length),(15,I x.1)]) (λx w'=>(x.1<=r.length/\x.2.2.length=x.1)/\Mw.Sep w noB [Dc x.2.2 (p.cols.take x.1),bW 94 2 bZ (.slice x.2.1.1 x.2.2.length x.2.1.2) x.2.2,Kz (.slice X p.wh.length cx) aD 3 p.wh,blk b3 [.slice X p.wh.length cx,.slice x.2.1.1 x.2.2.length x.2.1.2,I p.group] 26,blk b2 [.slice none 0 0,.slice none 0 0,I 0] 26] w') (λx _=>r.length-x.1) (0,(none,0),[]) tR ⟨⟨zak _,rfl⟩,Hh.firsts (l:=[_,_,_,_,_])⟩ (λx τ wi hI=>?_);obtain⟨i,⟨C,cc⟩,q⟩:=x;obtain⟨⟨hi,Gd⟩,Hh⟩:=hI;dsimp only at hi Gd Hh
 try simp only[dA,like,bB]
 refine Za1 ?_;refine Qn (fC (Cp rfl (λIa=>?_) (λIa=>?_)))
 .have bX:i<p.cols.length:=oM
  obtain⟨vx,hx,Cq⟩:=gW.at bX;have rY:p.cols[i]? =some p.cols[i]:=zaa bX;obtain⟨o,ho⟩: ∃o,o=p.cols[i]:=⟨_,rfl⟩;rw[<-ho]at hx Cq rY;have tF:p.cols.take (i+1)=p.cols.take i++[o]:=by rw[zav,rY,zdd]
  have hol:=Je o (zao rY);have asw:=Cq;obtain⟨V,cv,rfl,_,_⟩:=asw;refine Zb0 ?_;refine Vv (Gives.mK rfl rfl hA oM) (Vv (Gives.jQ rfl Hh hA hx) ?_);refine aW Hh (h:=λb5 wj Hi kc=>?_);refine au Hi (h:=λwk Hj=>?_);refine Qn (Ds (λSa wl Hk=>?_));refine Zb6 ?_;refine dL Sa 6 [(3,false),(2,true),(1,false),(0,true)] Hk (zP (l:=o.steps) (Cq.keep Hk.kept) hol) (h:=λvy wm _ Hl kd=>?_);obtain⟨Y,cy,rfl,_,_⟩:=Sep.eO Hl At0;refine⟨aY Hl (h:=ah (aY Hl (h:=ah (aK)))),?_⟩;refine Gb Sa 7 (bZ (o.name,.slice Y o.steps.length cy)) ?_;refine bU Sa 8 [(1,false),(0,true)] Hl (xs:=[.tmp 26]) (out:=[(o.name,Value.slice Y o.steps.length cy)].flatMap bZ) (bE.many rfl rfl bE.nil) (h:=λbs wn Hm=>⟨aY Hm (h:=ah (aK)),?_⟩);refine jN Sa 9 _ Hm (news:=[(o.name,Value.slice Y o.steps.length cy)]) At3 (by unfold maxLen;simp;omega) (by simp;omega) (λu hu=>zaz.1 (show([(o.name,Value.slice Y o.steps.length cy)].flatMap bZ).all Value.oneCell'=true from rfl) u hu) (h:=λv2 wo Hn=>?_);obtain⟨C2,c2,rfl,_,_⟩:=Sep.eO Hn At3;refine⟨sT,?_⟩;refine Zb1 ?_;refine qd Sa 11 _ Hn (h:=λwp Ho=>⟨sT,?_⟩);refine Zb0 ?_;refine Vc ((i+1:Nat):Int) ?_;refine Zb1 ?_;exact ak (i+1,(C2,c2),q++[(o.name,Value.slice Y o.steps.length cy)]) tR ⟨⟨dO,by dsimp only;rw[zad,Gd];rfl⟩,by
  dsimp only;rw[tF];exact LZ Ho.aJ.eF⟩ dO
 have jy:p.cols.take i=p.cols:=zaf oM;refine Zb0 ?_;refine iA Hh (cs:=[.slice X p.wh.length cx,.slice C q.length cc,I p.group]) (h:=?_);refine au Hh (h:=λwq Hp=>?_);refine Qn (fu (aX (h:=?_)));rw[jy]at Hp;have h1:=iL Hp.aJ At0;have h2:=Sep.rH (Z:=λw=>aM w (.slice C q.length cc) bZ 2 q/\nI w q p.cols) h1 (λw a b=>⟨a,b⟩);have h3:=Sep.rH (Z:=λw=>uQ w (.slice X p.wh.length cx) (.slice C q.length cc) q p) h2.aJ (λw a b=>⟨a,b⟩);exact⟨_,jg Hp,(.slice X p.wh.length cx,.slice C q.length cc,q),rfl,trivial,h3.first.turn⟩
end
open Tryz
section
variable {w:Wd} {F:NP}
theorem Mj (A:OA) (n c:Nat) (b1:Nat):aN prog 88 [.slice A n c,aA b1] w λu w'=>∃bs:Nat,u=.func (.func 89) #[] #[aA b1,aA bs]/\True/\Turn noB (blk bs [.slice A n c] 23) w w':=by
 have H:=Sep.aL w;refine dS func88 rfl rfl rfl rfl ?_;refine Sr (dz H (cs:=[.slice A n c]) rfl (h:=λbs w2 H2 k1=>?_));refine Zb3 ?_;exact⟨bs,rfl,trivial,H2.turn⟩
theorem aaN {b:Nat} {z:Mh} {kv fv:Value} {o1 o2 o3:Int} {cols outs:List bL} {p:aZ} (hp:(star (blk b (vg z p.group kv o1 o2 o3 fv) 75) (iC λw=>nQ w z cols p outs)).ok F w) (hn:p.cols.length<=100):
    aN prog 53 [aA b] w λ_ w'=>∃gv:Value,Turn F (star (blk b (vg z p.group kv o1 o2 o3 gv) 75) (iC λw=>nQ w z cols p outs/\sF w b gv p)) w w':=by
  have H:=(Sep.dZ hp).dG;obtain⟨cv,wv,pv,ov,r⟩:=z;have hF0:nQ _ ⟨cv,wv,pv,ov,r⟩ cols p outs:=Sep.sees H At1;have Zw:aM _ wv aD 3 p.wh:=hF0.2.1.1;have LG:aM _ pv bZ 2 r:=hF0.2.1.2.1;obtain⟨W,cw,rfl,_,_⟩:=Zw;obtain⟨A,ca,rfl,_,_⟩:=LG;have xk:=hF0.2.1.2.2.len;dsimp only at xk;unfold vg at H ⊢;dsimp only at H ⊢;refine eP func53 rfl rfl rfl rfl ?_;refine Sr (dz H (cs:=[aA b]) rfl (h:=λb1 w2 H2 k1=>?_));refine Zb2 ?_;refine aW H2 (h:=λbp w6 H6 k5=>?_);refine bM H6 (h:=λw8 H8=>?_);refine Qn (iP (λx:Value=>[(1,aA b1),(2,.func (.func 88) #[] #[aA b1]),(3,aA bp)]) (λx w'=>Mw.Sep w F [iC λw=>nQ w ⟨cv,.slice W p.wh.length cw,.slice A r.length ca,ov,r⟩ cols p outs/\oU w b1 x p.wh,blk bp [x] 153,blk b1 [aA b] 38,blk b (nP cv (.slice W p.wh.length cw) (.slice A r.length ca) p.group ov kv o1 o2 o3 fv) 75] w') ?_ ?_)
  . refine Za7 ?_
    refine Qn (Cp rfl (λIa=>?_) (λIa=>?_))
    . have hwn: ¬p.wh=[]:=λe=>by have h:=Ia;rw[e]at h;simp at h
      refine Zb6 ?_;refine fB (fs:=[]) (cs:=[aA b1]) (vals:=[.slice W p.wh.length cw]) rfl (Mj W p.wh.length cw b1) rfl rfl (λv' wa hv=>?_);obtain⟨bs,rfl,_,jH,F1,jA,jO⟩:=hv;have Ha:=H8.new jH jA (λb hb=>(jO b hb).resolve_left id);refine bM Ha (h:=λwb Hb=>?_);refine Zb0 ?_;have h1:=Sep.look Hb At0 (X:=λw=>jo w bs [.slice W p.wh.length cw] 23) (λF w h=>h.2);have h2:=Sep.rH (Z:=λw=>nQ w ⟨cv,.slice W p.wh.length cw,.slice A r.length ca,ov,r⟩ cols p outs/\oU w b1 (.func (.func 89) #[] #[aA b1,aA bs]) p.wh) h1.fF (λw g1 g2=>⟨g1,by unfold oU;rw[zab hwn];exact⟨bs,_,rfl,g2,g1.2.1.1⟩⟩);exact aG (.func (.func 89) #[] #[aA b1,aA bs]) tR h2
    have hwn:p.wh=[]:=zbi oM;refine Zb0 ?_;have h1:=Sep.tN (Y:=λw=>nQ w ⟨cv,.slice W p.wh.length cw,.slice A r.length ca,ov,r⟩ cols p outs/\oU w b1 (.func (.func 91) #[] #[]) p.wh) H8 At3 (λw h=>⟨h,by unfold oU;rw[zac hwn]⟩);exact aG (.func (.func 91) #[] #[]) tR h1.bN
  rintro pf τ wc Hc;simp only[dA,like,bB,bY];refine Sr (aW Hc (h:=λb4 wd Hd ka=>?_));refine Zb7 ?_;have He:=Sep.tN (Y:=λw=>nQ w ⟨cv,.slice W p.wh.length cw,.slice A r.length ca,ov,r⟩ cols p outs/\oU w b1 pf p.wh/\qX w b1 [] []) Hd At1 (λw h=>⟨h.1,h.2,qX.nil⟩);refine aP (λx:(OA×Nat)×LV×Nat=>[(1,aA b1),(2,.func (.func 88) #[] #[aA b1]),(3,aA bp),(4,aA b4),(26,.slice A r.length ca),(27,I r.length),(28,I x.2.2)]) (λx w'=>(x.2.2<=r.length/\x.2.1.length=x.2.2)/\Mw.Sep w F [blk b4 [.slice x.1.1 x.2.1.length x.1.2] 157,bW 153 1 KW (.slice x.1.1 x.2.1.length x.1.2) x.2.1,iC λw=>nQ w ⟨cv,.slice W p.wh.length cw,.slice A r.length ca,ov,r⟩ cols p outs/\oU w b1 pf p.wh/\qX w b1 x.2.1 (p.cols.take x.2.2),blk bp [pf] 153,blk b1 [aA b] 38,blk b (nP cv (.slice W p.wh.length cw) (.slice A r.length ca) p.group ov kv o1 o2 o3 fv) 75] w') (λx _=>r.length-x.2.2) ((none,0),[],0) tR ⟨⟨zak _,rfl⟩,(Sep.lZ He 153 1 KW).aJ⟩ (λx τ we hI=>?_);obtain⟨⟨G,cG⟩,gl,i⟩:=x;obtain⟨⟨hi,V9⟩,He⟩:=hI;dsimp only at hi V9 He
  try simp only[dA,like,bB]
  refine Za1 ?_;refine Qn (fC (Cp rfl (λIb=>?_) (λIb=>?_)))
  . have bX:i<p.cols.length:=oM
    have hPA:=(Sep.sees He At2).1.2.1;obtain⟨vx,hx,Cq⟩:=hPA.2.2.at bX;have rY:p.cols[i]? =some p.cols[i]:=zaa bX;obtain⟨o,ho⟩: ∃o,o=p.cols[i]:=⟨_,rfl⟩;rw[<-ho]at hx Cq rY;have tF:p.cols.take (i+1)=p.cols.take i++[o]:=by rw[zav,rY,zdd]
    obtain⟨V,cV,rfl,_,_⟩:=Cq;refine Zb0 ?_;refine Vv (Gives.mK rfl rfl (cO (Sep.sees He At2).1.2.1.2.1) oM) (Vv (Gives.jQ rfl (Sep.aL _) (cO (Sep.sees He At2).1.2.1.2.1) hx) ?_);refine aW He (h:=λb6 wf Hf kb=>?_);refine au Hf (h:=λwg Hg=>?_);refine Qn (Ds (λSa wi Hh=>?_));refine Zb4 ?_;refine jc Sa 4 [(0,false)] (y:=.tmp 33) (fs:=[]) (cs:=[aA b1]) (vals:=[.slice V o.steps.length cV]) rfl (Mj V o.steps.length cV b1) (h:=λv' wj hv=>?_);obtain⟨bs,rfl,_,jH,F1,jA,jO⟩:=hv;have Hi:=Hh.new jH jA (λb hb=>(jO b hb).resolve_left id);refine⟨aY Hi (h:=aK),?_⟩;refine bU Sa 5 [(0,false)] Hi (xs:=[.tmp 36]) (out:=[Value.func (.func 89) #[] #[aA b1,aA bs]].flatMap KW) (bE.one rfl rfl bE.nil) rfl rfl rfl (h:=λbq wk Hj=>⟨aY Hj (h:=aK),?_⟩);refine jN Sa 6 _ Hj (news:=[Value.func (.func 89) #[] #[aA b1,aA bs]]) At3 (by unfold maxLen;simp only[zan];omega) (by simp only[zan];omega) (λu hu=>zaz.1 (show([Value.func (.func 89) #[] #[aA b1,aA bs]].flatMap KW).all Value.oneCell'=true from rfl) u hu) (h:=λv38 wl Hk=>?_);obtain⟨G2,c2,rfl,_,_⟩:=Sep.eO Hk At3;refine⟨sT,?_⟩;refine qd Sa 7 _ Hk (h:=λwm Hl=>⟨sT,?_⟩);refine Zb0 ?_;refine Vc ((i+1:Nat):Int) ?_;refine Zb1 ?_;have h1:=Sep.look Hl At0 (X:=λw=>jo w bs [.slice V o.steps.length cV] 23) (λF w h=>h.2)
    have h2:=Sep.rH (Z:=λw=>nQ w ⟨cv,.slice W p.wh.length cw,.slice A r.length ca,ov,r⟩ cols p outs/\oU w b1 pf p.wh/\qX w b1 (gl++[Value.func (.func 89) #[] #[aA b1,aA bs]]) (p.cols.take (i+1))) (h1.aJ.eF.bN) (λw g1 g2=>⟨g1.1,g1.2.1,by
      rw[tF];refine g1.2.2.push ⟨bs,_,rfl,g2,?_⟩;obtain⟨vy,hy,hsy⟩:=g1.1.2.1.2.2.at bX;rw[<-ho,hx]at hy;injection hy with hy
      injection hy with _ hy
      rw[<-ho,<-hy]at hsy;exact hsy⟩)
    exact ak ((G2,c2),gl++[Value.func (.func 89) #[] #[aA b1,aA bs]],i+1) tR ⟨⟨dO,by dsimp only;rw[zad,V9];rfl⟩,h2.bF.bF⟩ dO
  have jy:p.cols.take i=p.cols:=zaf oM;refine Zb1 ?_;refine Vv (Gives.makeFunc (us:=[]) (vs:=[aA b1,aA bp,aA b4]) rfl rfl) (Zb2 ?_);refine bM He (h:=λwn Hm=>?_);refine Zb0 ?_;rw[jy]at Hm;have h1:=Sep.look Hm.bI At0 (X:=λw=>jo w b4 [.slice G gl.length cG] 157/\aM w (.slice G gl.length cG) KW 1 gl) (λF w h=>by obtain⟨F1,F2,_,_,a,b⟩:=h;exact⟨a.2,iE b⟩);have h2:=Sep.rH (Z:=λw=>(nQ w ⟨cv,.slice W p.wh.length cw,.slice A r.length ca,ov,r⟩ cols p outs/\oU w b1 pf p.wh/\qX w b1 gl p.cols)/\jo w b4 [.slice G gl.length cG] 157/\aM w (.slice G gl.length cG) KW 1 gl) h1 (λw a b=>⟨b,a⟩);have h3:=Sep.look h2 At1 (X:=λw=>jo w bp [pf] 153) (λF w h=>h.2);have h4:=Sep.rH (Z:=λw=>((nQ w ⟨cv,.slice W p.wh.length cw,.slice A r.length ca,ov,r⟩ cols p outs/\oU w b1 pf p.wh/\qX w b1 gl p.cols)/\jo w b4 [.slice G gl.length cG] 157/\aM w (.slice G gl.length cG) KW 1 gl)/\jo w bp [pf] 153) h3 (λw a b=>⟨a,b⟩);have h5:=Sep.look h4 At1 (X:=λw=>jo w b1 [aA b] 38) (λF w h=>h.2);have h6:=Sep.rH (Z:=λw=>nQ w ⟨cv,.slice W p.wh.length cw,.slice A r.length ca,ov,r⟩ cols p outs/\sF w b (.func (.func 92) #[] #[aA b1,aA bp,aA b4]) p) h5 (λw a b=>⟨a.1.1.1,b1,bp,b4,rfl,pf,_,gl,b,⟨a.2,a.1.1.2.1⟩,a.1.2,a.1.1.2.2⟩);exact⟨_,h6.aJ.bI.first.turn⟩
end
end Go.Proofs.YtkfpleidaoaonaaGreatDoor
namespace Go.Mw
open Go.RowKit
section
variable {P:Program} {n:Nat} {ops:AO} {Q:Post} {rest:LO} {σ:St} {w w' w0:Wd} {ty:Td} {pos:String} {after:Array Edge}
def Cz (P:Program) (f:FuncId) (args:LV) (w:Wd) (R:Value->Wd->Prop):Prop:=CallsDIn (fen none) 0 P f args.toArray .returning w λe u w'=>u=.returning/\Ret R e w'
def Ti (P:Program):List Deferred->Wd->(Wd->Prop)->Prop
 | [],w,R=>R w
 | d::ds,w,R=>∃(f:FuncId) (fs args:LV),d={target:=.fn (.func f) #[],args:=args.toArray}/\fs=args/\(∀w,(callFunc f args.toArray).run P w=.ok (.enter f args.toArray) w)/\Cz P f args w λ_ w'=>Ti P ds w' R
theorem yF {fn:Func} {tmps:Array Value} {R:Ending->Wd->Prop} {v:Value} (hr: ∀w,(results fn tmps).run P w=.ok v w): ∀(ds:List Deferred) (w:Wd),Ti P ds w (λw'=>R (.returned v) w')->LeavesInM (fen none) 0 P fn tmps R ds .returning w
 | [],w,h=>⟨v,hr w,h⟩
 | d::ds,w,⟨f,fs,args,hd,_,he,hc⟩=>by
  subst hd;refine⟨(λe=>by cases e),.inr ⟨(λh=>by cases h),.func f, #[],f,args.toArray,rfl,?_,λ_ _=>trivial,CallsDIn.mono hc λe u' w' hu=>?_⟩⟩
  .have:=he w
   simpa[invoke]using this
  obtain⟨rfl,hr'⟩:=hu;cases e with
  | returned u=>exact yF hr ds w' hr'
  | _=>exact hr'.elim
def al9 (P:Program) (l:List ResultVar) (R:Value->Wd->Prop):Post:=λe σ w=>match e with
 | .normal | .ret=>∃vs,oO σ l=some vs/\Ti P σ.ds w (R (fH vs))
 | _=>False
theorem Yb {l:List ResultVar} {R:Value->Wd->Prop} (h: ∃vs,oO σ l=some vs/\Ti P σ.ds w (R (fH vs))):al9 P l R .normal σ w:=h
theorem aoa {fn:Func} {args:LV} (hn:fn.ntmps=n) (qQ:args.length<=n):Rep n (CU 0 args) {tmps:=args.toArray++Array.replicate (fn.ntmps-args.toArray.size) undef,defers:=[]}:=by
 refine⟨?_,(Jj args 0).symm,λi=>?_⟩
 .simp[hn];omega
 rw[zZ];simp only[zak,if_true,zfk];simp only[zbm,zee];rw[zfl]
 split
 .simp
 rename_i hge;simp at hge;rw[zcs oM];rw[zef]
 split<;>rfl
theorem Yc {f:FuncId} {fn:Func} {c:Code} {args:LV} {R:Value->Wd->Prop} {l:List ResultVar}
    (hf:P.funcs[f]? =some fn) (hb:fn.body=some c) (hn:fn.ntmps=n) (hl:fn.results=l.toArray) (Ga:Nat.ble args.length n=true)
    (h:FW P none n c (al9 P l R) (CU 0 args) w):aN P f args w R:=by
  refine(callsIn_wide (n:=0)).1 (callsIn_of_wp_marks (F:=fen none) hf hb trivial (Go.wpIn_mono (h _ (aoa hn (zbc Ga))) ?_));rintro e a' w' ⟨s,hs,hq⟩;cases e with
  | normal=>
    obtain⟨vs,h1,h2⟩:=hq;show LeavesInM _ _ _ _ _ _ _ _ _
    rw[hs.defers];exact yF (λw=>sO hs.get hl h1) _ _ h2
  | ret=>
    obtain⟨vs,h1,h2⟩:=hq;show LeavesInM _ _ _ _ _ _ _ _ _
    rw[hs.defers];exact yF (λw=>sO hs.get hl h1) _ _ h2
  | _=>exact hq.elim
theorem ama {f:FuncId} {fn:Func} {c:Code} {a0 a1:Value} {R:Value->Wd->Prop} {l:List ResultVar} (hf:P.funcs[f]? =some fn) (hb:fn.body=some c) (hn:fn.ntmps=n) (hl:fn.results=l.toArray) (hk:Nat.ble 2 n=true)
    (h:FW P none n c (al9 P l R) (upd (upd und 1 a1) 0 a0) w):aN P f [a0,a1] w R:=Yc hf hb hn hl hk h
def ajO (l:List ResultVar) (R:Value->Wd->Prop):Post:=λe σ w=>match e with
 | .normal | .ret=>σ.ds=[]/\∃vs,oO σ l=some vs/\R (fH vs) w
 | _=>False
theorem Mk {l:List ResultVar} {R:Value->Wd->Prop} (h: ∃vs,oO σ l=some vs/\R (fH vs) w) (hd:σ.ds=[]:=by exact rfl):ajO l R .normal σ w:=⟨hd,h⟩
theorem Ml {f:FuncId} {fn:Func} {c:Code} {args:LV} {R:Value->Wd->Prop} {l:List ResultVar}
    (hf:P.funcs[f]? =some fn) (hb:fn.body=some c) (hn:fn.ntmps=n) (hl:fn.results=l.toArray) (Ga:Nat.ble args.length n=true)
    (h:FW P none n c (ajO l R) (CU 0 args) w):Cz P f args w R:=by
  refine CallsDIn.mono (callsDIn_of_wp (F:=fen none) (R:=Ret R) hf hb trivial (Go.wpIn_mono (h _ (aoa hn (zbc Ga))) ?_)) λe u' w' hu=>hu;rintro e a' w' ⟨s,hs,hq⟩;cases e with
  | normal=>
    obtain⟨hd,vs,h1,h2⟩:=hq;exact⟨by rw[hs.defers,hd],_,sO hs.get hl h1,h2⟩
  | ret=>
    obtain⟨hd,vs,h1,h2⟩:=hq;exact⟨by rw[hs.defers,hd],_,sO hs.get hl h1,h2⟩
  | _=>exact hq.elim
theorem amb {f:FuncId} {fn:Func} {c:Code} {a0:Value} {R:Value->Wd->Prop} {l:List ResultVar} (hf:P.funcs[f]? =some fn) (hb:fn.body=some c) (hn:fn.ntmps=n) (hl:fn.results=l.toArray) (hk:Nat.ble 1 n=true)
    (h:FW P none n c (ajO l R) (upd und 0 a0) w):Cz P f [a0] w R:=Ml hf hb hn hl hk h
theorem amc {f:FuncId} {fn:Func} {c:Code} {a0 a1:Value} {R:Value->Wd->Prop} {l:List ResultVar} (hf:P.funcs[f]? =some fn) (hb:fn.body=some c) (hn:fn.ntmps=n) (hl:fn.results=l.toArray) (hk:Nat.ble 2 n=true)
    (h:FW P none n c (ajO l R) (upd (upd und 1 a1) 0 a0) w):Cz P f [a0,a1] w R:=Ml hf hb hn hl hk h
theorem Yd {f:FuncId} {xs:List Od} {ats:Array Td} {vals:LV} (hv:xs.map (evF σ)=vals:=by exact rfl) (h:FL P none n ops Q rest ⟨σ.get,{target:=.fn (.func f) #[],args:=vals.toArray}::σ.ds⟩ w):
    FL P none n ops Q (⟨none,.defer {callee:=.value (.func f),args:=xs.toArray,argTypes:=ats},ty,pos,after,none⟩::rest) σ w:=λa ha=>
  wpListIn_plain rfl λK hK=>by
    refine⟨λ_ _=>trivial,?_⟩
    have e:(Oper.semAt none a.eval ⟨none,.defer {callee:=.value (.func f),args:=xs.toArray,argTypes:=ats},ty,pos,after,none⟩).run P w=.ok (.defer {target:=.fn (.func f) #[],args:=vals.toArray}) w:=by
      rw[ha.eval];simp[Oper.semAt,execOp,resolve,Deferred.ofValue,evF,hv]
    rw[show(fen none).round=none from rfl,e,Oper.uponIn_defer];exact hK _ _ (h _ ⟨ha.size,by show _::a.defers=_;rw[ha.defers],ha.get⟩)
theorem Cz.mono {f:FuncId} {args:LV} {R R':Value->Wd->Prop} (h:Cz P f args w R) (hr: ∀v w',R v w'->R' v w'):Cz P f args w R':=
 CallsDIn.mono h λe u w' hu=>⟨hu.1,by
  have h2:=hu.2;cases e<;>first | exact hr _ _ h2 | exact h2⟩
theorem Tj {f:FuncId} {args:LV} {ds:List Deferred} {R:Wd->Prop} [he:bC P f] (h:Cz P f args w λ_ w'=>Ti P ds w' R):Ti P ({target:=.fn (.func f) #[],args:=args.toArray}::ds) w R:=
 ⟨f,args,args,rfl,rfl,λw=>he.run _ w,h⟩
end
section
variable {P:Program} {w w0:Wd} {S:NP} {rs:List HP} {put:HP->List HP}
theorem Nv {b o:Nat} {cs:LV} {E:Td} {v:Value} (H:Sep w0 S rs w) (hat:At rs (blk b cs E) put) (bX:Nat.blt o cs.length=true):Sep w0 S (put (blk b (cs.set o v) E)) (w.setCell ⟨b,o,none⟩ v):=by
 obtain⟨hk,ho⟩:=BH (v:=v) (H.obj hat) (zbc bX);exact H.setObj hat hk ho
theorem BQ {b o:Nat} {cs:LV} {E:Td} (hb:w.heap[b]? =some (.cells cs.toArray E (0,0))):w.frozen? ⟨b,o,none⟩=false:=by simp[World.frozen?,hb]
theorem Gives.acC {ρ:Od->Value} {ty:Td} {x:Od} {s d:Td} {a:Addr} (jG:(convert s d (.pointer (some a))).run P w=.ok (.pointer (some a)) w) (hx:ρ x=.pointer (some a)):Gives P ρ (.convert s d x) ty w (.pointer (some a)) w:=λ_ _ _ _=>by
 simp[execOp,hx,jG]
end
section
variable {P:Program} {r:Option Nat} {n:Nat} {ops:AO} {Q:Post} {σ:St} {w w':Wd} {ty:Td} {pos:String} {after:Array Edge} {guard:Option (Nat×Bool)} {lv:List Bool} {pd:LNB}
theorem aob (gT:fT n ops=true) (i:Nat) (pd':LNB) {d:Nat} {f:FuncId} {xs:List Od} {ats:Array Td} {vals:LV} {v:Value} (hc:(callFunc f vals.toArray).run P w=.ok (.value v) w')
    (ho:ops[i]? =some ⟨some d,.call {callee:=.value (.func f),args:=xs.toArray,argTypes:=ats},ty,pos,after,guard⟩:=by exact rfl)
    (hw:Region.wanted ⟨some d,.call {callee:=.value (.func f),args:=xs.toArray,argTypes:=ats},ty,pos,after,guard⟩ (eD ops σ)=true:=by kernel_rfl) (hv:xs.map (evF σ)=vals:=by exact rfl)
    (fq:gY ops lv (pd.map (·.1)) i=true:=by kernel_rfl) (rC:pd.filter (λp=> !((above ops i).contains p.1))=pd':=by exact pD)
    (h:mI P ops (upd σ d v) w' pd'/\FG P r n ops Q (lv.set i true) pd' (upd σ d v) w'):FG P r n ops Q lv pd σ w:=
  Av (C:=λu w''=>u=v/\w''=w') gT i pd' ho hw ⟨v,w',Gives.ext hc hv,rfl,rfl⟩ fq rC λu w'' hu=>by
    obtain⟨rfl,rfl⟩:=hu;exact h
end
end Go.Mw
namespace Go.Proofs.YtkfpleidaoaonaaGreatDoor
open Go Go.Mw Go.Lib Tryz
set_option maxRecDepth 4000
attribute [local irreducible] FW FL FG FGn gu gy dh gH Qfn Gives
def cellP (b o:Nat):Value:=.pointer (some ⟨b,o,none⟩)
section
variable {w:Wd} {F:NP} {b:Nat} {cv wv pv ov kv fv:Value} {g o1 o2 o3:Int}
theorem Dt {E:Td} (hb:jo w b (nP cv wv pv g ov kv o1 o2 o3 fv) E):aN prog 86 [cellP b 6] w λv w'=>v=.bool (decide (o1≠0))/\Kept noB w w':=by
 have H:=Sep.aL w;refine eP func86 rfl rfl rfl rfl ?_;refine Zb4 ?_;refine Vv (Gives.ext (vals:=[cellP b 6]) (run_call_load (P:=prog) func134 kR kR kR .u32 kR (by rw[mY (hb.keep H.kept)];rfl))) ?_;refine Zb2 ?_;exact⟨rfl,H.kept⟩
theorem aen (hp:(blk b (nP cv wv pv g ov kv o1 0 o3 fv) 75).ok F w):aN prog 193 [cellP b 7] w λv w'=>v=.tuple #[]/\Turn F (blk b (nP cv wv pv g ov kv o1 1 o3 fv) 75) w w':=by
 have H:=Sep.dZ hp;refine eP func193 rfl rfl rfl rfl ?_;refine Sr (Vv (Gives.ext (vals:=[]) (run_call_mark0 (P:=prog) func255 kR kR kR .disable kR _)) (Zb3 ?_));obtain⟨w6,Ei⟩: ∃w1,w1=World.setCell w ⟨b,7,none⟩ (.int .i32 1):=⟨_,rfl⟩;have H6:Mw.Sep w F [blk b (nP cv wv pv g ov kv o1 1 o3 fv) 75] w6:=by rw[Ei];exact Nv (o:=7) (v:=.int .i32 1) H At0 rfl
 refine dU (w':=w6) (Gives.ext (vals:=[cellP b 7,.int .i32 0,.int .i32 1]) (by rw[Ei];exact run_call_cas_hit (P:=prog) func256 kR kR kR .i32 kR (by rw[mY (H.obj At0)];rfl) (BQ (H.obj At0)))) rfl ?_;refine Qn (Cd rfl (λqx=>?_) (λqx=>?_))
 .refine fC (Cd rfl (λy8=>?_) (λy8=>?_))
  .refine Sr (Vv (Gives.ext (vals:=[]) (run_call_mark0 (P:=prog) func257 kR kR kR .enable kR _)) (Zb1 ?_))
   refine Vv (Gives.acC (a:=⟨b,7,none⟩) (run_convert_to_unsafe (P:=prog) (t:=68) kR kR kR (v:=.int .i32 1) (by rw[mY (H6.obj At0)];rfl)) rfl) ?_;refine Vv (Gives.ext (vals:=[cellP b 7]) (run_call_marked (P:=prog) func258 kR kR kR .acquire kR ⟨b,7,none⟩ _)) (Zb0 ?_);exact⟨rfl,H6.turn⟩
  refine Zb0 ?_;exact⟨rfl,H6.turn⟩
 exact Bool.noConfusion qx
theorem Ye (hp:(blk b (nP cv wv pv g ov kv o1 1 o3 fv) 75).ok F w):aN prog 194 [cellP b 7] w λv w'=>v=.tuple #[]/\Turn F (blk b (nP cv wv pv g ov kv o1 0 o3 fv) 75) w w':=by
 have H:=Sep.dZ hp;refine eP func194 rfl rfl rfl rfl ?_;refine fC (Cd rfl (λJe=>?_) (λJe=>?_))
 .refine Zb3 ?_
  refine ig (H.obj At0) (h:=?_);refine Zb1 ?_;refine Vv (Gives.acC (a:=⟨b,7,none⟩) (run_convert_to_unsafe (P:=prog) (t:=68) kR kR kR (v:=.int .i32 1) (by rw[mY (H.obj At0)];rfl)) rfl) ?_;refine Vv (Gives.ext (vals:=[cellP b 7]) (run_call_marked (P:=prog) func260 kR kR kR .releaseMerge kR ⟨b,7,none⟩ _)) (Zb0 ?_);refine Vv (Gives.ext (vals:=[]) (run_call_mark0 (P:=prog) func255 kR kR kR .disable kR _)) (Zb3 ?_);obtain⟨wa,Ei⟩: ∃w1,w1=World.setCell w ⟨b,7,none⟩ (.int .i32 0):=⟨_,rfl⟩;have Ha:Mw.Sep w F [blk b (nP cv wv pv g ov kv o1 0 o3 fv) 75] wa:=by rw[Ei];exact Nv (o:=7) (v:=.int .i32 0) H At0 rfl
  refine dU (w':=wa) (Gives.ext (vals:=[cellP b 7,.int .i32 (-1)]) (by rw[Ei];exact run_call_add (P:=prog) func261 kR kR kR .i32 kR (x:=1) (by rw[mY (H.obj At0)];rfl) (BQ (H.obj At0)) (by simp[go_sem];rfl))) rfl ?_;refine Za3 ?_;refine Qn (Cp rfl (λIa=>?_) (λIa=>?_))
  .exact zat rfl Ia
  refine Zb0 ?_;refine Vv (Gives.ext (vals:=[]) (run_call_mark0 (P:=prog) func257 kR kR kR .enable kR _)) (Zb0 ?_);exact⟨rfl,Ha.turn⟩
 refine Zb3 ?_;obtain⟨wb,Ei⟩: ∃w1,w1=World.setCell w ⟨b,7,none⟩ (.int .i32 0):=⟨_,rfl⟩;have Hb:Mw.Sep w F [blk b (nP cv wv pv g ov kv o1 0 o3 fv) 75] wb:=by rw[Ei];exact Nv (o:=7) (v:=.int .i32 0) H At0 rfl
 refine dU (w':=wb) (Gives.ext (vals:=[cellP b 7,.int .i32 (-1)]) (by rw[Ei];exact run_call_add (P:=prog) func261 kR kR kR .i32 kR (x:=1) (by rw[mY (H.obj At0)];rfl) (BQ (H.obj At0)) (by simp[go_sem];rfl))) rfl ?_;refine Za3 ?_;refine Qn (Cp rfl (λIb=>?_) (λIb=>?_))
 .exact zat rfl Ib
 refine Zb0 ?_;refine Vv (Gives.ext (vals:=[]) (run_call_mark0 (P:=prog) func257 kR kR kR .enable kR _)) (Zb0 ?_);exact⟨rfl,Hb.turn⟩
theorem ajP (hp:(blk b (nP cv wv pv g ov kv o1 0 o3 fv) 75).ok F w):aN prog 135 [cellP b 7] w λv w'=>v=.tuple #[]/\Turn F (blk b (nP cv wv pv g ov kv o1 1 o3 fv) 75) w w':=by
 have H:=Sep.dZ hp;refine eP func135 rfl rfl rfl rfl ?_;refine Zb3 ?_;refine O6 H At0 (λF' hp _=>aen hp) (h:=λw5 H5=>?_);refine Zb0 ?_;exact⟨rfl,H5.turn⟩
theorem aaO (hp:(blk b (nP cv wv pv g ov kv o1 1 o3 fv) 75).ok F w):Cz prog 136 [cellP b 7] w λ_ w'=>Turn F (blk b (nP cv wv pv g ov kv o1 0 o3 fv) 75) w w':=by
 have H:=Sep.dZ hp;refine amb func136 rfl rfl rfl rfl ?_;refine Zb3 ?_;refine O6 H At0 (λF' hp _=>Ye hp) (h:=λw5 H5=>?_);refine zK (Mk (h:=?_));exact⟨[],rfl,H5.turn⟩
theorem amd:aN prog 196 [.bool true] w λv w'=>v=.int .u32 1/\Kept noB w w':=by
 have H:=Sep.aL w;refine eP func196 rfl rfl rfl rfl ?_;refine Za2 ?_;refine Qn (Cd rfl (λhc3=>?_) (λhc3=>?_))
 .refine Zb1 ?_
  exact⟨rfl,H.kept⟩
 exact Bool.noConfusion hc3
theorem aeo (hp:(blk b (nP cv wv pv g ov kv o1 o2 o3 fv) 75).ok F w):Cz prog 137 [cellP b 6,.bool true] w λ_ w'=>Turn F (blk b (nP cv wv pv g ov kv 1 o2 o3 fv) 75) w w':=by
 have H:=Sep.dZ hp;refine amc func137 rfl rfl rfl rfl ?_;refine Ds (λam2 w3 H3=>?_);refine Zb4 ?_;refine iZ am2 4 _ H3 amd (h:=λw7 H7 k6=>⟨sT,?_⟩);obtain⟨w9,Ei⟩: ∃w1,w1=World.setCell w7 ⟨b,6,none⟩ (.int .u32 1):=⟨_,rfl⟩;have H9:Mw.Sep w F [blk b (nP cv wv pv g ov kv 1 o2 o3 fv) 75] w9:=by rw[Ei];exact Nv (o:=6) (v:=.int .u32 1) H7 At0 rfl
 refine aob am2 5 [] (w':=w9) (vals:=[cellP b 6,.int .u32 1]) (by rw[Ei];exact run_call_store (P:=prog) func195 kR kR kR kR (u:=.int .u32 o1) (by rw[mY (H7.obj At0)];rfl) (BQ (H7.obj At0))) (h:=⟨sT,?_⟩);refine dP am2 kR ?_;refine Mk (h:=?_);exact⟨[],rfl,H9.turn⟩
end
section
variable {w:Wd} {F:NP} {b:Nat} {z:Mh} {kv:Value} {cols outs:List bL} {p:aZ}
theorem aep (hp:(star (blk b (vg z p.group kv 0 0 0 .nilFunc) 75) (iC λw=>nQ w z cols p outs)).ok F w) (hn:p.cols.length<=100):
    aN prog 87 [cellP b 6,.func (.func 53) #[aA b] #[]] w λ_ w'=>∃gv:Value,Turn F (star (blk b (vg z p.group kv 1 0 0 gv) 75) (iC λw=>nQ w z cols p outs/\sF w b gv p)) w w':=by
  have H:=(Sep.dZ hp).dG;unfold vg at H;refine ama func87 rfl rfl rfl rfl ?_;refine Zb3 ?_;refine O6 H At0 (λF' hp _=>ajP hp) (h:=λw5 H5=>?_);refine Zb3 ?_;refine Yd (vals:=[cellP b 7]) (h:=?_);refine Zb3 ?_;refine aF H5 (Dt (H5.obj At0)) (h:=λw14 H14 k13=>?_);refine Za1 ?_;refine Qn (Cp rfl (λapb=>?_) (λapb=>?_))
  . refine Zb3 ?_
    refine Yd (vals:=[cellP b 6,.bool true]) (h:=?_);refine Zb1 ?_;obtain⟨F0,uI,_,aQ⟩:=(H14.bI).focus At0;refine fB (fs:=[aA b]) (cs:=[]) (vals:=[]) rfl (aaN (z:=z) (cols:=cols) (p:=p) (outs:=outs) uI hn) rfl rfl (λv' w23 hv=>?_);obtain⟨gv,jH,F1,jA,jO⟩:=hv;have H23:=(aQ _ F1 _ jH jA jO).dG;refine zK (Yb (h:=?_));obtain⟨F0,uI,_,aQ⟩:=H23.focus At0;unfold vg at uI;refine⟨[],rfl,Tj (Cz.mono (aeo uI) λv1 w1 rX=>?_)⟩;obtain⟨jH,F1,jA,jO⟩:=rX;obtain⟨F2,am3,_,aiY⟩:=(aQ _ F1 _ jH jA jO).focus At0;refine Tj (Cz.mono (aaO am3) λv2 w2 Jd=>?_);obtain⟨hk2,F3,tC,Qv⟩:=Jd;exact⟨gv,(aiY _ F3 _ hk2 tC Qv).bI.turn⟩
  exact zat apb sM
theorem ag7 (hp:(star (blk b (vg z p.group kv 0 0 0 .nilFunc) 75) (iC λw=>nQ w z cols p outs)).ok F w) (hn:p.cols.length<=100):
    aN prog 52 [cellP b 6,.func (.func 53) #[aA b] #[]] w λ_ w'=>∃gv:Value,Turn F (star (blk b (vg z p.group kv 1 0 0 gv) 75) (iC λw=>nQ w z cols p outs/\sF w b gv p)) w w':=by
  have H:=Sep.dZ hp;refine dS func52 rfl rfl rfl rfl ?_;refine Zb3 ?_;refine aF H (Dt (H.dG.obj At0)) (h:=λw5 H5 k4=>?_);refine Za1 ?_;refine Qn (Cp rfl (λqx=>?_) (λqx=>?_))
  . refine Zb2 ?_
    obtain⟨F0,uI,_,aQ⟩:=H5.focus At0;refine aS (aep uI hn) rfl rfl (λv' wa hv=>?_);obtain⟨gv,jH,F1,jA,jO⟩:=hv;have Ha:=aQ _ F1 _ jH jA jO;refine Zb0 ?_;exact⟨gv,Ha.turn⟩
  exact zat qx sM
theorem ajQ {E:Td} {fv f:Value} {o2 o3:Int} (hb:jo w b (vg z p.group kv 1 o2 o3 fv) E):aN prog 52 [cellP b 6,f] w λ_ w'=>Kept noB w w':=by
 have H:=Sep.aL w;refine dS func52 rfl rfl rfl rfl ?_;refine Zb3 ?_;refine aF H (Dt (hb.keep H.kept)) (h:=λw5 H5 k4=>?_);refine Za1 ?_;refine Qn (Cp rfl (λqx=>?_) (λqx=>?_))
 .exact zat qx sM
 refine Zb0 ?_;exact H5.kept
theorem ame {fv:Value} {o1:Int} (hp:(star (blk b (vg z p.group kv o1 0 0 fv) 75) (iC λw=>nQ w z cols p outs/\((o1=0/\fv=.nilFunc)\/(o1=1/\sF w b fv p)))).ok F w) (hn:p.cols.length<=100):
    aN prog 52 [cellP b 6,.func (.func 53) #[aA b] #[]] w λ_ w'=>∃gv:Value,Turn F (star (blk b (vg z p.group kv 1 0 0 gv) 75) (iC λw=>nQ w z cols p outs/\sF w b gv p)) w w':=by
  have H:=(Sep.dZ hp).dG
  rcases (Sep.sees H At1).2 with⟨rfl,rfl⟩ | ⟨rfl,_⟩
  . have H1:=(Sep.tN (Y:=λw=>nQ w z cols p outs) H At1 λw h=>h.1).bI
    obtain⟨F0,uI,_,aQ⟩:=H1.focus At0;refine aN.mono (ag7 uI hn) λv w' hv=>?_;obtain⟨gv,jH,F1,jA,jO⟩:=hv;exact⟨gv,(aQ _ F1 _ jH jA jO).turn⟩
  have H1:=(Sep.tN (Y:=λw=>nQ w z cols p outs/\sF w b fv p) H At1 λw h=>⟨h.1,h.2.elim (λh=>zat h.1 dC) λh=>h.2⟩);exact aN.mono (ajQ (z:=z) (p:=p) (kv:=kv) (H1.obj At0)) λv w' hk=>⟨fv,(H1.keep hk).bI.turn⟩
end
end Go.Proofs.YtkfpleidaoaonaaGreatDoor
namespace Go.Mw
open Go.RowKit
section
variable {P:Program} {r:Option Nat} {n:Nat} {ops:AO} {Q:Post} {rest:LO} {σ:St} {w:Wd} {ty:Td} {pos:String} {after:Array Edge}
def yG (P:Program) (t:Td) (v:Value) (name:String) (f:FuncId) (u:Value):Prop:=∀w:Wd,(method (P.types.size+Made.depth) t v name).run P w=.ok (f,u) w
theorem Yf {d:Nat} {x:Od} {name:String} {t:Td} {v u:Value} {f:FuncId} {xs:List Od} {ats:Array Td} {vals:LV} {R:Value->Wd->Prop} [he:bC P f] (hx:evF σ x=.iface t v) (hm:yG P t v name f u) (hc:aN P f (u::vals) w R)
    (hv:xs.map (evF σ)=vals) (hd:Nat.blt d n=true) (h: ∀v w',R v w'->FL P r n ops Q rest (upd σ d v) w'):
    FL P r n ops Q (⟨some d,.call {callee:=.invoke x name,args:=xs.toArray,argTypes:=ats},ty,pos,after,none⟩::rest) σ w:=λa ha=>
  wpListIn_plain rfl λK hK=>by
    refine⟨λ_ _=>trivial,?_⟩;rw[Oper.semAt_eq _ _ _ (λ_ h=>by cases h),ha.eval]
    have e:(execOp (evF σ) ⟨some d,.call {callee:=.invoke x name,args:=xs.toArray,argTypes:=ats},ty,pos,after,none⟩).run P w=.ok (.enter f (u::vals).toArray) w:=by
      have h1:=he.run (#[u]++vals.toArray) w;simp[execOp,resolve,invoke,callMethod,hx,hv,hm w];rw[show(u::vals).toArray= #[u]++vals.toArray from sM];simpa using h1
    rw[e,Oper.uponIn_enter];refine⟨(λh=>by cases h),uJ r (Calls.mono hc λe w'' hr=>?_)⟩;cases e with
    | returned v=>exact hK _ _ (h v w'' hr _ (ha.put (zbc hd) v))
    | _=>exact hr.elim
theorem Gives.aaP {ρ:Od->Value} {x:Od} {T:Td} {b:Nat} (hu: ∀w:Wd,(Instr.makeInterface T (.pointer (some ⟨b,0,none⟩))).run P w=.ok (.iface T (.pointer (some ⟨b,0,none⟩))) w) (hx:ρ x=.pointer (some ⟨b,0,none⟩)):Gives P ρ (.makeInterface T x) ty w (.iface T (.pointer (some ⟨b,0,none⟩))) w:=λ_ _ _ _=>by
 simp[execOp,hx,hu w]
end
section
variable {P:Program} {r:Option Nat} {n:Nat} {ops:AO} {Q:Post} {σ:St} {w w0:Wd} {S:NP} {rs:List HP} {ty:Td} {pos:String} {after:Array Edge} {guard:Option (Nat×Bool)} {lv:List Bool} {pd:LNB}
theorem Yg (gT:fT n ops=true) (i:Nat) (pd':LNB) {d:Nat} {T:Td} {x:Od} {v:Value} {cs:LV} (H:Sep w0 S rs w)
    (hx:evF σ x=v) (hcs:v.cells=cs.toArray) (ho:ops[i]? =some ⟨some d,.box T x,ty,pos,after,guard⟩:=by exact rfl)
    (hw:Region.wanted ⟨some d,.box T x,ty,pos,after,guard⟩ (eD ops σ)=true:=by kernel_rfl)
    (fq:rR ops lv (pd.map (·.1)) i=true:=by kernel_rfl) (rC:pd.filter (λp=> !((above ops i).contains p.1))=pd':=by exact pD)
    (h: ∀b w',Sep w0 S (blk b cs T::rs) w'->mI P ops (upd σ d (.pointer (some ⟨b,0,none⟩))) w' pd'/\FG P r n ops Q (lv.set i true) pd' (upd σ d (.pointer (some ⟨b,0,none⟩))) w'):tZ P r n ops Q lv pd σ w i:=
  JX (C:=λv w'=>∃b,v=.pointer (some ⟨b,0,none⟩)/\Sep w0 S (blk b cs T::rs) w') gT i pd' ho hw ⟨_,_,Gives.an9 hx hcs,_,rfl,H.alloc _⟩ fq rC (λv w' hv=>by obtain⟨b,rfl,hs⟩:=hv;exact h b w' hs)
end
end Go.Mw
namespace Go.Proofs.YtkfpleidaoaonaaGreatDoor
open Go Go.Mw Go.Lib Tryz
set_option maxRecDepth 4000
attribute [local irreducible] FW FL FG FGn gu gy dh gH Qfn Gives
theorem qG {cols:List bL} {p:aZ} (h:(bQ cols p).2=0):1<=p.cols.length/\p.cols.length<=16/\ -1<=p.group/\p.group<=p.cols.length:=by
 cases hn:zM p with
 | true=>exact(yw hn).1
 | false=>unfold bQ at h;rw[zac hn]at h;exact zat h dC
theorem EF {T:Td} (hT: ∀(b:Nat) (w:Wd),(Instr.makeInterface T (.pointer (some ⟨b,0,none⟩))).run prog w=.ok (.iface T (.pointer (some ⟨b,0,none⟩))) w) {ρ:Od->Value} {ty:Td} {x:Od} {b:Nat} {w:Wd} (hx:ρ x=aA b):Gives prog ρ (.makeInterface T x) ty w (.iface T (aA b)) w:=
 Gives.aaP (hT b) hx
theorem Du (b:Nat) (w:Wd):(Instr.makeInterface 104 (.pointer (some ⟨b,0,none⟩))).run prog w=.ok (.iface 104 (.pointer (some ⟨b,0,none⟩))) w:=kR
theorem QU (b:Nat) (w:Wd):(Instr.makeInterface 110 (.pointer (some ⟨b,0,none⟩))).run prog w=.ok (.iface 110 (.pointer (some ⟨b,0,none⟩))) w:=kR
section
variable {w w0:Wd} {S:NP} {rs:List HP}
theorem aer {g:Int} {n b E:Nat} {v:Value} (e:(n:Int)=g) (H:Mw.Sep w0 S (blk b [v,I g] E::rs) w):Mw.Sep w0 S (blk b [v,I (n:Int)] E::rs) w:=by rw[e];exact H
theorem AL {b:Nat} {z:Mh} {kv fv:Value} {o1:Int} {cols:List bL} {p:aZ} {T:List aH} (H:Mw.Sep w0 S (blk b (vg z p.group kv o1 0 0 fv) 75::vk kv p T::iC (λw=>nQ w z cols p (bQ cols p).1/\((o1=0/\fv=.nilFunc)\/(o1=1/\sF w b fv p)))::rs) w):Mw.Sep w0 S (jq b cols p T::rs) w:=
 Sep.uW (p:=λx:Mh×Value×Int×Value=>star (blk b (vg x.1 p.group x.2.1 x.2.2.1 0 0 x.2.2.2) 75) (star (vk x.2.1 p T) (iC λw=>nQ w x.1 cols p (bQ cols p).1/\((x.2.2.1=0/\x.2.2.2=.nilFunc)\/(x.2.2.1=1/\sF w b x.2.2.2 p))))) (z,kv,o1,fv) (H.bF.bF.bI.aJ.bI)
theorem OU {b:Nat} {cols:List bL} {p:aZ} {T:List aH} (H:Mw.Sep w0 S (jq b cols p T::rs) w): ∃(z:Mh) (kv fv:Value) (o1:Int),Mw.Sep w0 S (blk b (vg z p.group kv o1 0 0 fv) 75::vk kv p T::iC (λw=>nQ w z cols p (bQ cols p).1/\((o1=0/\fv=.nilFunc)\/(o1=1/\sF w b fv p)))::rs) w:=by
 obtain⟨⟨z,kv,o1,fv⟩,H1⟩:=Sep.ex0 H;exact⟨z,kv,fv,o1,H1.dG.aJ.dG.bF⟩
theorem zQ {b:Nat} {tv:Value} {p:aZ} {T:List aH} (hg:p.group<0) (H:Mw.Sep w0 S (blk b [tv] 106::Di tv (dY T).1::rs) w):Mw.Sep w0 S (vk (.iface 104 (aA b)) p T::rs) w:=by
 unfold vk;rw[zac hg];exact Sep.uW (p:=λx:Nat×Value=>star (jI (Value.iface 104 (aA b)=.iface 104 (aA x.1))) (star (blk x.1 [x.2] 106) (Di x.2 (dY T).1))) (b,tv) (Sep.bI (Sep.jT rfl H.bI))
theorem zR {b bg bh:Nat} {p:aZ} {T:List aH} (hg: ¬p.group<0) (H:Mw.Sep w0 S (blk b [aA bg,I (p.group.toNat:Nat)] 112::star (blk bg (uF p.group.toNat (p.cols.length-p.group.toNat) bh) 150) (JK bh (p.cols.length-p.group.toNat) (T.map (fE p.group.toNat)))::rs) w):Mw.Sep w0 S (vk (.iface 110 (aA b)) p T::rs) w:=by
 unfold vk;rw[zab hg];exact Sep.uW (p:=λx:Nat×Nat×Nat=>star (jI (Value.iface 110 (aA b)=.iface 110 (aA x.1))) (star (blk x.1 [aA x.2.1,I (p.group.toNat:Nat)] 112) (star (blk x.2.1 (uF p.group.toNat (p.cols.length-p.group.toNat) x.2.2) 150) (JK x.2.2 (p.cols.length-p.group.toNat) (T.map (fE p.group.toNat)))))) (b,bg,bh) (Sep.bI (Sep.jT rfl H.bI))
end
section
variable {w:Wd}
theorem ajR {cols:List bL} {p:aZ} {vc vp:Value} (hc:aM w vc aR 7 cols) (Uo:cols.length<=1000) (hp:eG w vp p) (MU:bK p.wh) (Jh: ∀o∈p.cols,bK o.steps) (hn:p.cols.length<=100) (Ei:p.wh.length<=1000) (Je: ∀o∈p.cols,o.steps.length<=1000) (hT:fA w):
    aN prog 19 [vc,vp] w λu w'=>((bQ cols p).2≠0->u=.tuple #[.pointer none,I (bQ cols p).2]/\Kept noB w w')/\((bQ cols p).2=0->∃b:Nat,u=.tuple #[aA b,I 0]/\Turn noB (jq b cols p []) w w'):=by
  have fZ:=hp;obtain⟨vw,vq,rfl,hw,r,hr,gW⟩:=hp;obtain⟨W,cw,rfl,_,_⟩:=id hw;obtain⟨A,m,rfl,_,_⟩:=id hr;have xk:=gW.len;have H:=Sep.aL w;refine dS func19 rfl rfl rfl rfl ?_;refine Sr (dz H (cs:=[.slice W p.wh.length cw,.slice A r.length m,I p.group]) rfl (h:=λb3 w2 H2 k1=>?_));refine Zb3 ?_;refine iA H2 (cs:=[.slice W p.wh.length cw,.slice A r.length m,I p.group]) (h:=?_);refine dx H2 (adU (hc.keep H2.kept) (fZ.keep H2.kept) MU Jh oM (hT.keep H2.kept)) (h:=λvo w8 _ H8 k7=>?_);obtain⟨O,co,rfl,_,_⟩:=Sep.eO H8 At0;refine Za7 ?_;refine Qn (Cp rfl (λIa=>?_) (λIa=>?_))
  . have Ib:=Ia
    refine Zb3 ?_;exact⟨λ_=>⟨rfl,H8.kept⟩,λh=>zat h Ib⟩
  have fq:(bQ cols p).2=0:=Decidable.of_not_not Ia;have Un:=qG fq;refine Sk (iP (λx:(OA×Nat)×(OA×Nat)×(OA×Nat)×List (L8×Value)×Nat×Nat=>[(3,aA b3),(8,aA x.2.2.2.2.2)]) (λx w'=>Mw.Sep w noB [blk x.2.2.2.2.2 (nP (.slice x.1.1 cols.length x.1.2) (.slice x.2.1.1 p.wh.length x.2.1.2) (.slice x.2.2.1.1 x.2.2.2.1.length x.2.2.1.2) p.group (.slice O (bQ cols p).1.length co) (.iface 104 (aA x.2.2.2.2.1)) 0 0 0 .nilFunc) 75,blk x.2.2.2.2.1 [.slice none 0 0] 106,(iC λw=>uQ w (.slice x.2.1.1 p.wh.length x.2.1.2) (.slice x.2.2.1.1 x.2.2.2.1.length x.2.2.1.2) x.2.2.2.1 p),bW 54 7 aR (.slice x.1.1 cols.length x.1.2) cols,bW 54 7 aR (.slice O (bQ cols p).1.length co) (bQ cols p).1,blk b3 [.slice W p.wh.length cw,.slice A r.length m,I p.group] 26] w') ?_ ?_)
  . refine Ds (λSa wa Ha=>?_)
    refine Zb1 ?_;refine nC Sa 2 Ha (h:=?_);refine Gm Sa 4 ?_;refine Gb Sa 5 [.slice none 0 0] ?_;refine jK Sa (e1:=1) (e2:=6) kR ?_ ?_
    . refine l9 Sa 1 [(5,true),(4,true),(2,false)] Ha (Jw (hc.keep Ha.kept) Uo) (h:=λy wb _ Hb ka=>?_)
      obtain⟨Y,cy,rfl,_,_⟩:=Sep.eO Hb At0;refine⟨ah (ah (aO Hb (h:=aK))),?_⟩;refine jK Sa (e1:=3) (e2:=6) kR ?_ ?_
      . refine l9 Sa 3 _ Hb (KX (fZ.keep Hb.kept) hn Ei Je) (h:=λy wc _ Hc kb=>?_)
        obtain⟨wv,pv,q⟩:=y;dsimp only at Hc ⊢;have hPA:uQ _ wv pv q p:=Sep.sees Hc At0;obtain⟨WV,cwv,rfl,_,_⟩:=hPA.1;obtain⟨PV,cpv,rfl,_,_⟩:=hPA.2.1;refine⟨sT,?_⟩;refine R3 Sa 6 _ Hc (cs:=[.slice none 0 0]) rfl rfl (h:=λbp wd Hd=>⟨sT,?_⟩);refine Gp Sa 7 rfl rfl (λ_=>(EF Du rfl)) (Gp Sa 8 rfl rfl (λ_=>(Gives.build (out:=nP (.slice Y cols.length cy) (.slice WV p.wh.length cwv) (.slice PV q.length cpv) p.group (.slice O (bQ cols p).1.length co) (.iface 104 (aA bp)) 0 0 0 .nilFunc) (Fills.one rfl rfl rfl sM rfl (Fills.many rfl rfl (zbc rfl) rfl (Fills.one rfl rfl rfl (zbc rfl) rfl (Fills.one rfl rfl rfl (zbc rfl) rfl Fills.nil)))))) ?_);refine R3 Sa 9 _ Hd (cs:=nP (.slice Y cols.length cy) (.slice WV p.wh.length cwv) (.slice PV q.length cpv) p.group (.slice O (bQ cols p).1.length co) (.iface 104 (aA bp)) 0 0 0 .nilFunc) rfl rfl (h:=λb we He=>⟨sT,?_⟩);refine Zb1 ?_
        first
        | exact aG ((Y,cy),(WV,cwv),(PV,cpv),q,bp,b) tR He
        | exact aG ((Y,cy),(WV,cwv),(PV,cpv),q,bp,b) tR He.bF.bN.bN.bN
        | exact aG ((Y,cy),(WV,cwv),(PV,cpv),q,bp,b) tR He.bN.bF.bN.bN
        | exact aG ((Y,cy),(WV,cwv),(PV,cpv),q,bp,b) tR He.bF.bF.bN.bN
        | exact aG ((Y,cy),(WV,cwv),(PV,cpv),q,bp,b) tR He.aJ.bN.bN.bN
        | exact aG ((Y,cy),(WV,cwv),(PV,cpv),q,bp,b) tR He.aJ.bF.bN.bN
      refine Yg Sa 6 [(4,true),(2,false)] Hb (cs:=[.slice none 0 0]) rfl rfl (h:=λbp wf Hf=>⟨ah (aO Hf (h:=aK)),?_⟩);refine Gp Sa 7 rfl rfl (λ_=>(EF Du rfl)) (dL Sa 3 _ Hf (KX (fZ.keep Hf.kept) hn Ei Je) (h:=λy wg _ Hg kc=>?_));obtain⟨wv,pv,q⟩:=y;dsimp only at Hg ⊢;have hPA:uQ _ wv pv q p:=Sep.sees Hg At0;obtain⟨WV,cwv,rfl,_,_⟩:=hPA.1;obtain⟨PV,cpv,rfl,_,_⟩:=hPA.2.1;refine⟨sT,?_⟩;refine Gp Sa 8 rfl rfl (λ_=>(Gives.build (out:=nP (.slice Y cols.length cy) (.slice WV p.wh.length cwv) (.slice PV q.length cpv) p.group (.slice O (bQ cols p).1.length co) (.iface 104 (aA bp)) 0 0 0 .nilFunc) (Fills.one rfl rfl rfl sM rfl (Fills.many rfl rfl (zbc rfl) rfl (Fills.one rfl rfl rfl (zbc rfl) rfl (Fills.one rfl rfl rfl (zbc rfl) rfl Fills.nil)))))) (R3 Sa 9 _ Hg (cs:=nP (.slice Y cols.length cy) (.slice WV p.wh.length cwv) (.slice PV q.length cpv) p.group (.slice O (bQ cols p).1.length co) (.iface 104 (aA bp)) 0 0 0 .nilFunc) rfl rfl (h:=λb wi Hh=>⟨sT,?_⟩));refine Zb1 ?_
      first
      | exact aG ((Y,cy),(WV,cwv),(PV,cpv),q,bp,b) tR Hh
      | exact aG ((Y,cy),(WV,cwv),(PV,cpv),q,bp,b) tR Hh.bF.bN.bN.bN
      | exact aG ((Y,cy),(WV,cwv),(PV,cpv),q,bp,b) tR Hh.bN.bF.bN.bN
      | exact aG ((Y,cy),(WV,cwv),(PV,cpv),q,bp,b) tR Hh.bF.bF.bN.bN
      | exact aG ((Y,cy),(WV,cwv),(PV,cpv),q,bp,b) tR Hh.aJ.bN.bN.bN
      | exact aG ((Y,cy),(WV,cwv),(PV,cpv),q,bp,b) tR Hh.aJ.bF.bN.bN
    refine Yg Sa 6 [(4,true),(2,false),(0,true)] Ha (cs:=[.slice none 0 0]) rfl rfl (h:=λbp wj Hi=>⟨ah (aO Hi (h:=ah (aK))),?_⟩);refine Gp Sa 7 rfl rfl (λ_=>(EF Du rfl)) (dL Sa 1 [(7,true),(4,true),(2,false)] Hi (Jw (hc.keep Hi.kept) Uo) (h:=λy wk _ Hj kd=>?_));obtain⟨Y,cy,rfl,_,_⟩:=Sep.eO Hj At0;refine⟨ah (ah (aO Hj (h:=aK))),?_⟩;refine dL Sa 3 _ Hj (KX (fZ.keep Hj.kept) hn Ei Je) (h:=λy wl _ Hk ke=>?_);obtain⟨wv,pv,q⟩:=y;dsimp only at Hk ⊢;have hPA:uQ _ wv pv q p:=Sep.sees Hk At0;obtain⟨WV,cwv,rfl,_,_⟩:=hPA.1;obtain⟨PV,cpv,rfl,_,_⟩:=hPA.2.1;refine⟨sT,?_⟩;refine Gp Sa 8 rfl rfl (λ_=>(Gives.build (out:=nP (.slice Y cols.length cy) (.slice WV p.wh.length cwv) (.slice PV q.length cpv) p.group (.slice O (bQ cols p).1.length co) (.iface 104 (aA bp)) 0 0 0 .nilFunc) (Fills.one rfl rfl rfl sM rfl (Fills.many rfl rfl (zbc rfl) rfl (Fills.one rfl rfl rfl (zbc rfl) rfl (Fills.one rfl rfl rfl (zbc rfl) rfl Fills.nil)))))) (R3 Sa 9 _ Hk (cs:=nP (.slice Y cols.length cy) (.slice WV p.wh.length cwv) (.slice PV q.length cpv) p.group (.slice O (bQ cols p).1.length co) (.iface 104 (aA bp)) 0 0 0 .nilFunc) rfl rfl (h:=λb wm Hl=>⟨sT,?_⟩));refine Zb1 ?_
    first
    | exact aG ((Y,cy),(WV,cwv),(PV,cpv),q,bp,b) tR Hl
    | exact aG ((Y,cy),(WV,cwv),(PV,cpv),q,bp,b) tR Hl.bF.bN.bN.bN
    | exact aG ((Y,cy),(WV,cwv),(PV,cpv),q,bp,b) tR Hl.bN.bF.bN.bN
    | exact aG ((Y,cy),(WV,cwv),(PV,cpv),q,bp,b) tR Hl.bF.bF.bN.bN
    | exact aG ((Y,cy),(WV,cwv),(PV,cpv),q,bp,b) tR Hl.aJ.bN.bN.bN
    | exact aG ((Y,cy),(WV,cwv),(PV,cpv),q,bp,b) tR Hl.aJ.bF.bN.bN
  rintro⟨⟨Y,cy⟩,⟨WV,cwv⟩,⟨PV,cpv⟩,q,bp,b⟩ τ wn Hm;dsimp only at Hm;have Hm:=iL Hm At3;have Hm:=iL Hm At4;have Hm:=Sep.rH (Z:=λw=>aM w (.slice Y cols.length cy) aR 7 cols/\uQ w (.slice WV p.wh.length cwv) (.slice PV q.length cpv) q p) Hm.bF.bN (λw a b=>⟨a,b⟩);have Hm:=Sep.rH (Z:=λw=>nQ w ⟨.slice Y cols.length cy,.slice WV p.wh.length cwv,.slice PV q.length cpv,.slice O (bQ cols p).1.length co,q⟩ cols p (bQ cols p).1/\(((0:Int)=0/\Value.nilFunc=.nilFunc)\/((0:Int)=1/\sF w b .nilFunc p))) Hm.bN.ald (λw a b=>⟨⟨a.1,a.2,b⟩,.inl ⟨rfl,rfl⟩⟩);simp only[dA,like,bB,bY];refine Za3 ?_;refine Qn (Cp rfl (λIc=>?_) (λIc=>?_))
  . have hg: ¬p.group<0:=oM
    refine Zb7 ?_;refine Vc ((p.cols.length-p.group.toNat:Nat):Int) ?_;have hgn:(p.group.toNat:Int)=p.group:=zcw oM;refine aS (aea p.group ((p.cols.length-p.group.toNat:Nat):Int)) rfl rfl (λv' wo hv=>?_);obtain⟨⟨bg,bh⟩,rfl,jH,F1,jA,jO⟩:=hv.2 ⟨oM,oM,oM,oM⟩;have Hn:=(Hm.new jH jA (λb hb=>(jO b hb).resolve_left id)).dG;rw[zdv]at Hn;refine Za7 ?_;refine Qn (Cp rfl (λId=>?_) (λId=>?_))
    . exact zat rfl Id
    refine Zb4 ?_;refine Vb [aA bg,I p.group] ?_;refine dz Hn (cs:=[aA bg,I p.group]) rfl (h:=λbk wp Ho kf=>?_);refine dU (EF QU rfl) rfl ?_;refine Zb2 ?_;refine bM Ho (h:=λwq Hp=>?_);refine Zb3 ?_;exact⟨λh=>zat fq h,λ_=>⟨b,rfl,by
    have h1:=AB (L:=[]) (Sep.zm (X:=λw=>iQ w []) Hp.bF (λw s hs=>zat hs zaj)) (aed (p.cols.length-p.group.toNat));have h2:=h1.bF.bI.aJ;have h4:=zR (T:=[]) hg (aer hgn h2);exact(AL (z:=⟨.slice Y cols.length cy,.slice WV p.wh.length cwv,.slice PV q.length cpv,.slice O (bQ cols p).1.length co,q⟩) h4.bF).first.turn⟩⟩
  have hg:p.group<0:=oM;refine Zb3 ?_;exact⟨λh=>zat fq h,λ_=>⟨b,rfl,by
  have h1:=zQ (T:=[]) hg ((Sep.zm (X:=λw=>cZ w (.slice none 0 0) (dY []).1) Hm.bF (λw=>⟨[],Er _ _ _,fM.nil⟩)).aJ);exact(AL (z:=⟨.slice Y cols.length cy,.slice WV p.wh.length cwv,.slice PV q.length cpv,.slice O (bQ cols p).1.length co,q⟩) h1.bF).first.turn⟩⟩
end
end Go.Proofs.YtkfpleidaoaonaaGreatDoor
