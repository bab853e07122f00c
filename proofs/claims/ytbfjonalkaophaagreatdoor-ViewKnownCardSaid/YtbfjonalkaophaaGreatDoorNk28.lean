/-
 A view made;walked.
-/
import Derived.Test.YtbfjonalkaophaaGreatDoorNk27
set_option linter.all false
set_option maxRecDepth 4000
namespace Go.Proofs.Mw
open Go.Lib Go.Proofs.Tryz
attribute [local irreducible] FW FL FG FGn jX lg gD l7 Qfn ah
variable {cols:List bF} {p:aU}
def nE (h:(bD cols p).2=0):1<=p.cols.length/\p.cols.length<=16/\ -1<=p.group/\p.group<=p.cols.length:=by
 cases hn:lM p with
 | true=>exact(rG hn).1
 | false=>unfold bD at h;rw[zac hn]at h;exact zas h dC
variable {b:Nat}
def Df {T:Td} (h: ∀(b:Nat) (w:Wd),(Instr.makeInterface T (.pointer (some ⟨b,0,none⟩))).run prog w=.ok (.iface T (.pointer (some ⟨b,0,none⟩))) w) {a:Od->Value} {t:Td} {x:Od} {w:Wd} (k:a x=aC b):ah prog a (.makeInterface T x) t w (.iface T (aC b)) w:=
 ah.ZH (h b) k
def BL (b:Nat) (w:Wd):(Instr.makeInterface 107 (.pointer (some ⟨b,0,none⟩))).run prog w=.ok (.iface 107 (.pointer (some ⟨b,0,none⟩))) w:=by kernel_rfl
def OM (b:Nat) (w:Wd):(Instr.makeInterface 130 (.pointer (some ⟨b,0,none⟩))).run prog w=.ok (.iface 130 (.pointer (some ⟨b,0,none⟩))) w:=by kernel_rfl
variable {w w0:Wd} {S:NP} {rs:List HP}
variable {v:Value}
def adg {g:Int} {n E:Nat} (e:(n:Int)=g) (H:Mw.Sep w0 S (blk b [v,I g] E::rs) w):Mw.Sep w0 S (blk b [v,I (n:Int)] E::rs) w:=by rw[e];exact H
variable {T:List aH} {kv:Value}
def uL {z:Kw} {f:Value} {o:Int} (H:Mw.Sep w0 S (blk b (sV z p.group kv o 0 0 f) 126::sW kv p T::fA (λw=>lY w z cols p (bD cols p).1/\((o=0/\f=.nilFunc)\/(o=1/\qb w b f p)))::rs) w):Mw.Sep w0 S (j4 b cols p T::rs) w:=
 Sep.tZ (p:=λx:Kw×Value×Int×Value=>dx (blk b (sV x.1 p.group x.2.1 x.2.2.1 0 0 x.2.2.2) 126) (dx (sW x.2.1 p T) (fA λw=>lY w x.1 cols p (bD cols p).1/\((x.2.2.1=0/\x.2.2.2=.nilFunc)\/(x.2.2.1=1/\qb w b x.2.2.2 p))))) (z,kv,o,f) (H.aR.aR.aZ.aJ.aZ)
def Ew {cols:List bF} {p:aU} (H:Mw.Sep w0 S (j4 b cols p T::rs) w): ∃(z:Kw) (k f:Value) (o:Int),Mw.Sep w0 S (blk b (sV z p.group k o 0 0 f) 126::sW k p T::fA (λw=>lY w z cols p (bD cols p).1/\((o=0/\f=.nilFunc)\/(o=1/\qb w b f p)))::rs) w:=by
 obtain⟨⟨z,k,o,f⟩,h⟩:=Sep.ex0 H;exact⟨z,k,f,o,h.bW.aJ.bW.aR⟩
def yD {t:Value} {T:List aH} (h:p.group<0) (H:Mw.Sep w0 S (blk b [t] 109::Bz t (dJ T).1::rs) w):Mw.Sep w0 S (sW (.iface 107 (aC b)) p T::rs) w:=by
 unfold sW;rw[zac h];exact Sep.tZ (p:=λx:Nat×Value=>dx (jH (Value.iface 107 (aC b)=.iface 107 (aC x.1))) (dx (blk x.1 [x.2] 109) (Bz x.2 (dJ T).1))) (b,t) (Sep.aZ (Sep.jY rfl H.aZ))
def yE {b bg bh:Nat} {T:List aH} (h: ¬p.group<0) (H:Mw.Sep w0 S (blk b [aC bg,I (p.group.toNat:Nat)] 132::dx (blk bg (q9 p.group.toNat (p.cols.length-p.group.toNat) bh) 166) (FX bh (p.cols.length-p.group.toNat) (T.map (fV p.group.toNat)))::rs) w):Mw.Sep w0 S (sW (.iface 130 (aC b)) p T::rs) w:=by
 unfold sW;rw[zab h];exact Sep.tZ (p:=λx:Nat×Nat×Nat=>dx (jH (Value.iface 130 (aC b)=.iface 130 (aC x.1))) (dx (blk x.1 [aC x.2.1,I (p.group.toNat:Nat)] 132) (dx (blk x.2.1 (q9 p.group.toNat (p.cols.length-p.group.toNat) x.2.2) 166) (FX x.2.2 (p.cols.length-p.group.toNat) (T.map (fV p.group.toNat)))))) (b,bg,bh) (Sep.aZ (Sep.jY rfl H.aZ))
variable {vc vp:Value}
theorem ah1 (hc:aP w vc aL 7 cols) (E:cols.length<=1000) (hp:fK w vp p) (hfw:bY p.wh) (hfc: ∀o∈p.cols,bY o.steps) (hn:p.cols.length<=100) (t:p.wh.length<=1000) (l: ∀o∈p.cols,o.steps.length<=1000) (hT:gK w):
    aX prog 18 [vc,vp] w λu R=>((bD cols p).2≠0->u=.tuple #[.pointer none,I (bD cols p).2]/\aS noB w R)/\((bD cols p).2=0->∃b:Nat,u=.tuple #[aC b,I 0]/\cO noB (j4 b cols p []) w R):=by
  have j:=hp;obtain⟨vw,vq,rfl,hw,r,hr,G⟩:=hp;obtain⟨W,cw,rfl,_,_⟩:=id hw;obtain⟨A,m,rfl,_,_⟩:=id hr;have EO:=G.len;have H:=Sep.aI w;refine dn func18 ?_;refine Sr (bK H (cs:=[.slice W p.wh.length cw,.slice A r.length m,I p.group]) rfl (h:=λb3 w2 M k1=>?_));refine V3 ?_;refine gF M (cs:=[.slice W p.wh.length cw,.slice A r.length m,I p.group]) (h:=?_);refine Nz (acw (hc.aK M.au) (j.aK M.au) hfw hfc oM (hT.aK M.au)) (λvo w8 _ H8 k7=>?_);obtain⟨O,co,rfl,_,_⟩:=Sep.bX H8 At0;refine Cz (λIe=>?_) (λIe=>?_)
  . have If:=Ie
    refine V3 ?_;exact⟨λ_=>⟨rfl,H8.au⟩,λh=>zas h If⟩
  have n:(bD cols p).2=0:=Decidable.of_not_not Ie;have hnm:=nE n;refine Sk (dU (λx:(OA×Nat)×(OA×Nat)×(OA×Nat)×List (L8×Value)×Nat×Nat=>[(3,aC b3),(8,aC x.2.2.2.2.2)]) (λx R=>Mw.Sep w noB [blk x.2.2.2.2.2 (mU (.slice x.1.1 cols.length x.1.2) (.slice x.2.1.1 p.wh.length x.2.1.2) (.slice x.2.2.1.1 x.2.2.2.1.length x.2.2.1.2) p.group (.slice O (bD cols p).1.length co) (.iface 107 (aC x.2.2.2.2.1)) 0 0 0 .nilFunc) 126,blk x.2.2.2.2.1 [.slice none 0 0] 109,(fA λw=>oI w (.slice x.2.1.1 p.wh.length x.2.1.2) (.slice x.2.2.1.1 x.2.2.2.1.length x.2.2.1.2) x.2.2.2.1 p),aY 50 7 aL (.slice x.1.1 cols.length x.1.2) cols,aY 50 7 aL (.slice O (bD cols p).1.length co) (bD cols p).1,blk b3 [.slice W p.wh.length cw,.slice A r.length m,I p.group] 32] R) ?_ ?_)
  . refine Dz (λS wa N=>?_)
    refine V1 ?_;refine gY S 2 N (h:=?_);refine Gm S 4 ?_;refine Gb S 5 [.slice none 0 0] ?_;refine jw S (e1:=1) (e2:=6) kR ?_ ?_
    . refine jS S 1 [(5,true),(4,true),(2,false)] N (Aj (hc.aK N.au) E) (h:=λy wb _ Q ka=>?_)
      obtain⟨Y,f,rfl,_,_⟩:=Sep.bX Q At0;refine⟨sU,?_⟩;refine jw S (e1:=3) (e2:=6) kR ?_ ?_
      . refine jS S 3 _ Q (Jy (j.aK Q.au) hn t l) (h:=λy wc _ V kb=>?_)
        obtain⟨K,J,q⟩:=y;dsimp only at V ⊢;have d:oI _ K J q p:=Sep.dh V At0;obtain⟨e,k,rfl,_,_⟩:=d.1;obtain⟨P,c,rfl,_,_⟩:=d.2.1;refine⟨sT,?_⟩;refine M4 S 6 _ V (cs:=[.slice none 0 0]) rfl rfl (h:=λg wd Hd=>⟨sT,?_⟩);refine Gp S 7 rfl rfl (λ_=>(Df BL rfl)) (Gp S 8 rfl rfl (λ_=>(ah.build (out:=mU (.slice Y cols.length f) (.slice e p.wh.length k) (.slice P q.length c) p.group (.slice O (bD cols p).1.length co) (.iface 107 (aC g)) 0 0 0 .nilFunc) (bQ.one rfl rfl rfl sM rfl (bQ.many rfl rfl (zbd rfl) rfl (bQ.one rfl rfl rfl (zbd rfl) rfl (bQ.one rfl rfl rfl (zbd rfl) rfl bQ.nil)))))) ?_);refine M4 S 9 _ Hd (cs:=mU (.slice Y cols.length f) (.slice e p.wh.length k) (.slice P q.length c) p.group (.slice O (bD cols p).1.length co) (.iface 107 (aC g)) 0 0 0 .nilFunc) rfl rfl (h:=λb we v=>⟨sT,?_⟩);refine V1 ?_;exact aA ((Y,f),(e,k),(P,c),q,g,b) tR (by first | exact v | exact v.aR.bB.bB.bB | exact v.bB.aR.bB.bB | exact v.aR.aR.bB.bB | exact v.aJ.bB.bB.bB | exact v.aJ.aR.bB.bB)
      refine WR S 6 [(4,true),(2,false)] Q (cs:=[.slice none 0 0]) rfl rfl (h:=λg wf Hf=>⟨sU,?_⟩);refine Gp S 7 rfl rfl (λ_=>(Df BL rfl)) (dF S 3 _ Hf (Jy (j.aK Hf.au) hn t l) (h:=λy wg _ F kc=>?_));obtain⟨K,J,q⟩:=y;dsimp only at F ⊢;have d:oI _ K J q p:=Sep.dh F At0;obtain⟨e,k,rfl,_,_⟩:=d.1;obtain⟨P,c,rfl,_,_⟩:=d.2.1;refine⟨sT,?_⟩;refine Gp S 8 rfl rfl (λ_=>(ah.build (out:=mU (.slice Y cols.length f) (.slice e p.wh.length k) (.slice P q.length c) p.group (.slice O (bD cols p).1.length co) (.iface 107 (aC g)) 0 0 0 .nilFunc) (bQ.one rfl rfl rfl sM rfl (bQ.many rfl rfl (zbd rfl) rfl (bQ.one rfl rfl rfl (zbd rfl) rfl (bQ.one rfl rfl rfl (zbd rfl) rfl bQ.nil)))))) (M4 S 9 _ F (cs:=mU (.slice Y cols.length f) (.slice e p.wh.length k) (.slice P q.length c) p.group (.slice O (bD cols p).1.length co) (.iface 107 (aC g)) 0 0 0 .nilFunc) rfl rfl (h:=λb wi C=>⟨sT,?_⟩));refine V1 ?_;exact aA ((Y,f),(e,k),(P,c),q,g,b) tR (by first | exact C | exact C.aR.bB.bB.bB | exact C.bB.aR.bB.bB | exact C.aR.aR.bB.bB | exact C.aJ.bB.bB.bB | exact C.aJ.aR.bB.bB)
    refine WR S 6 [(4,true),(2,false),(0,true)] N (cs:=[.slice none 0 0]) rfl rfl (h:=λg wj Hi=>⟨sU,?_⟩);refine Gp S 7 rfl rfl (λ_=>(Df BL rfl)) (dF S 1 [(7,true),(4,true),(2,false)] Hi (Aj (hc.aK Hi.au) E) (h:=λy wk _ Hj kd=>?_));obtain⟨Y,f,rfl,_,_⟩:=Sep.bX Hj At0;refine⟨sU,?_⟩;refine dF S 3 _ Hj (Jy (j.aK Hj.au) hn t l) (h:=λy wl _ Hk ke=>?_);obtain⟨K,J,q⟩:=y;dsimp only at Hk ⊢;have d:oI _ K J q p:=Sep.dh Hk At0;obtain⟨e,k,rfl,_,_⟩:=d.1;obtain⟨P,c,rfl,_,_⟩:=d.2.1;refine⟨sT,?_⟩;refine Gp S 8 rfl rfl (λ_=>(ah.build (out:=mU (.slice Y cols.length f) (.slice e p.wh.length k) (.slice P q.length c) p.group (.slice O (bD cols p).1.length co) (.iface 107 (aC g)) 0 0 0 .nilFunc) (bQ.one rfl rfl rfl sM rfl (bQ.many rfl rfl (zbd rfl) rfl (bQ.one rfl rfl rfl (zbd rfl) rfl (bQ.one rfl rfl rfl (zbd rfl) rfl bQ.nil)))))) (M4 S 9 _ Hk (cs:=mU (.slice Y cols.length f) (.slice e p.wh.length k) (.slice P q.length c) p.group (.slice O (bD cols p).1.length co) (.iface 107 (aC g)) 0 0 0 .nilFunc) rfl rfl (h:=λb wm D=>⟨sT,?_⟩));refine V1 ?_;exact aA ((Y,f),(e,k),(P,c),q,g,b) tR (by first | exact D | exact D.aR.bB.bB.bB | exact D.bB.aR.bB.bB | exact D.aR.aR.bB.bB | exact D.aJ.bB.bB.bB | exact D.aJ.aR.bB.bB)
  rintro⟨⟨Y,f⟩,⟨e,k⟩,⟨P,c⟩,q,g,b⟩ τ wn i;dsimp only at i;have i:=dz i At3;have i:=dz i At4;have i:=Sep.jN (Z:=λw=>aP w (.slice Y cols.length f) aL 7 cols/\oI w (.slice e p.wh.length k) (.slice P q.length c) q p) i.aR.bB (λw a b=>⟨a,b⟩);have i:=Sep.jN (Z:=λw=>lY w ⟨.slice Y cols.length f,.slice e p.wh.length k,.slice P q.length c,.slice O (bD cols p).1.length co,q⟩ cols p (bD cols p).1/\(((0:Int)=0/\Value.nilFunc=.nilFunc)\/((0:Int)=1/\qb w b .nilFunc p))) i.bB.aiW (λw a b=>⟨⟨a.1,a.2,b⟩,.inl ⟨rfl,rfl⟩⟩);refine Lp ?_;refine Cz (λIg=>?_) (λIg=>?_)
  . have hg: ¬p.group<0:=oM
    refine V7 ?_;refine Vc ((p.cols.length-p.group.toNat:Nat):Int) ?_;have hgn:(p.group.toNat:Int)=p.group:=zcv oM;refine aO (acX p.group ((p.cols.length-p.group.toNat:Nat):Int)) rfl rfl (λv' wo hv=>?_);obtain⟨⟨bg,bh⟩,rfl,hk1,F1,hq1,hs1⟩:=hv.2 ⟨oM,oM,oM,oM⟩;have Hn:=(i.new hk1 hq1 (λb hb=>(hs1 b hb).resolve_left id)).bW;rw[zdv]at Hn;refine Cz (λIh=>?_) (λIh=>?_)
    . exact zas rfl Ih
    refine V4 ?_;refine Vb [aC bg,I p.group] ?_;refine bK Hn (cs:=[aC bg,I p.group]) rfl (h:=λbk wp Ho kf=>?_);refine eu (Df OM rfl) rfl ?_;refine Uz (λwq Hp=>?_);refine V3 ?_;exact⟨λh=>zas n h,λ_=>⟨b,rfl,by
    have h1:=zl (L:=[]) (Sep.pU (X:=λw=>iC w []) Hp.aR (λw s hs=>zas hs zal)) (ac1 (p.cols.length-p.group.toNat));have h2:=h1.aR.aZ.aJ;have h4:=yE (T:=[]) hg (adg hgn h2);exact(uL (z:=⟨.slice Y cols.length f,.slice e p.wh.length k,.slice P q.length c,.slice O (bD cols p).1.length co,q⟩) h4.aR).first.bf⟩⟩
  have hg:p.group<0:=oM;refine V3 ?_;exact⟨λh=>zas n h,λ_=>⟨b,rfl,by
  have h1:=yD (T:=[]) hg ((Sep.pU (X:=λw=>dM w (.slice none 0 0) (dJ []).1) i.aR (λw=>⟨[],mR _ _ _,gM.nil⟩)).aJ);exact(uL (z:=⟨.slice Y cols.length f,.slice e p.wh.length k,.slice P q.length c,.slice O (bD cols p).1.length co,q⟩) h1.aR).first.bf⟩⟩
variable {cv vr:Value} {r:List aF}
def aa0 {A C b:Nat} {cs:LV} {G E J:Td} {D:Value} {cols:List bF} {l:List bH} (e:iB w A [aC b] G) (g:iB w b (cv::cs) E) (o:iB w C [D] J) (i:aP w cv aL 7 cols) (m:aP w D aQ 3 l) (n:aP w vr aj 3 r) (j:mO r) (p:bY l) (f:gK w):
    Rk prog 104 [vr,aC A,aC C] w (.tuple #[agg (aj (j6 cols l r).1),I (j6 cols l r).2]):=by
  have H:=Sep.aI w;refine AB func104 ?_;refine Az (λs v q t=>?_);refine Dz (λa x k=>?_);refine G0 (Gt rfl (ah.nP rfl (e.aK k.au) rfl) ?_);refine V2 ?_;refine GS (Gt rfl (ah.nP rfl (g.aK k.au) rfl) ?_);refine GS (Gt rfl (ah.nP rfl (o.aK k.au) rfl) ?_);refine V1 ?_;refine dS a 6 _ k (aes (i.aK k.au) (m.aK k.au) (n.aK k.au) j p (f.aK k.au).utf) (h:=λy d u=>⟨sT,?_⟩);refine V2 ?_;refine cu a 9 _ d (us:=aj (j6 cols l r).1) (h:=λz c=>⟨sT,?_⟩);refine V1 ?_;exact⟨_,dD c,rfl,c.au⟩
def afU (v:Value):Rk prog 106 [v] w (.tuple #[agg (aj ⟨false,1,[]⟩),I 0]):=by
 have H:=Sep.aI w;refine pI func106 ?_;refine Az (λb c k a=>?_);refine V1 ?_;refine Vb (aj ⟨false,1,[]⟩) ?_;refine Tz (λd h=>?_);refine V1 ?_;exact⟨_,dD h,rfl,h.au⟩
def QG {q b:Nat} {cs:LV} {t E:Td} {p:Value} {cols:List bF} {l:List bH} (h:nI w q p l) (c:iB w q [aC b] t) (g:iB w b (cv::cs) E) (i:aP w cv aL 7 cols) (m:aP w vr aj 3 r) (j:mO r) (o:bY l) (d:gK w):
    ∃(f:FuncId) (u:LV),p=.func (.func f) #[] u.toArray/\qB prog f/\Rk prog f ([]++[vr]++u) w (.tuple #[agg (aj (qo cols l r).1),I (qo cols l r).2]):=by
  unfold nI at h;unfold qo
  by_cases e:l=[]
  . rw[zac e]at h |-
    subst h;exact⟨_,[],rfl,eT,afU vr⟩
  rw[zab e]at h ⊢;obtain⟨a,s,rfl,n,k⟩:=h;exact⟨_,[aC q,aC a],rfl,eT,aa0 c g n i k m j o d⟩
def Nj {l:List mF} {o:mF} (h:(fq cols r l).2=0):fq cols r (l++[o])=if(j6 cols o.steps r).2≠0 then([],(j6 cols o.steps r).2)else((fq cols r l).1++[(j6 cols o.steps r).1],0):=by
 induction l with
 | nil=>
  show(if(j6 cols o.steps r).2≠0 then([],(j6 cols o.steps r).2)else if(0:Int)≠0 then([],0)else([(j6 cols o.steps r).1],0))=_
  split
  .rfl
  rfl
 | cons x l i=>
  rw[fq]at h;rw[zcb,fq,fq]
  split at h
  .rename_i k;exact zas h k
  rename_i k;rw[zab k,zab k]
  split at h
  .rename_i a;exact zas h a
  rename_i a;rw[zab a,i (Decidable.of_not_not a)]
  split
  .rename_i b;first | rfl | rw[zac b]
  rename_i b;rw[zab (λh=>h rfl)];rfl
def QH {l m:List mF} (h:(fq cols r l).2≠0):fq cols r (l++m)=([],(fq cols r l).2):=by
 induction l with
 | nil=>exact zas rfl h
 | cons x l i=>
  rw[fq]at h;rw[zcb,fq,fq]
  split at h
  .rename_i k;rw[zac k,zac k]
  rename_i k;rw[zab k,zab k]
  split at h
  .rename_i a
   rw[zac a,i a,zac a]
  exact zas rfl h
theorem afV {b b1 bp b4:Nat} {cs:LV} {E:Td} {pf gv:Value} {gl:LV} {cols:List bF} {p:aU} {r:List aF} {T1 T2 T3:Td} (Q:iB w b1 [aC b] T1) (hbp:iB w bp [pf] T2) (P:nI w b1 pf p.wh) (hb4:iB w b4 [gv] T3) (hgv:aP w gv zu 1 gl) (M:o8 w b1 gl p.cols)
    (T:iB w b (cv::cs) E) (V:aP w cv aL 7 cols) (Y:aP w vr aj 3 r) (W:mO r) (L:bY p.wh) (hfc: ∀o∈p.cols,bY o.steps) (hn:p.cols.length<=100) (R:gK w):
    aX prog 107 [vr,aC b1,aC bp,aC b4] w λu w'=>∃x:Value,u=.tuple #[x,.bool (gI cols p r).2.1,I (gI cols p r).2.2]/\True/\cO noB (aY 48 3 aj x (gI cols p r).1) w w':=by
  have H:=Sep.aI w;obtain⟨G,cG,rfl,⟨hcG,aqS⟩,hG⟩:=hgv;have aqT:=M.1;obtain⟨fp,us,rfl,hen,_⟩:=QG P Q T V Y W L R;refine yM func107 ?_;refine V3 ?_;refine eP (Q.aK H.au) (h:=?_);refine V2 ?_;refine eP (T.aK H.au) (h:=?_);refine Mv ?_;refine Kz (E9 (V.aK H.au) (Y.aK H.au) W (R.aK H.au).utf) (λwa q k9=>?_);refine Cz (λF=>?_) (λF=>?_)
  . have ay:gI cols p r=([],false,d9 cols r):=by unfold gI;rw[zac F]
    refine V4 ?_;exact⟨.slice none 0 0,by rw[ay];rfl,trivial,by rw[ay];exact(Sep.iX q 48 3 aj).bf⟩
  have j:=F;refine V0 ?_;refine eP (hbp.aK q.au) (h:=?_);refine Mv ?_;obtain⟨fp2,us2,he2,J,z⟩:=QG (b:=b) (cols:=cols) (nI.aK P q.au) (Q.aK q.au) (T.aK q.au) (V.aK q.au) (Y.aK q.au) W L (R.aK q.au);refine fQ (he:=J) (fs:=[]) (cs:=us2) (vals:=[vr]) he2 z rfl rfl (λv' wb hv=>?_);obtain⟨rfl,A⟩:=hv;have Hb:=q.aK A;obtain⟨v,c⟩: ∃v,v=qo cols p.wh r:=⟨_,rfl⟩;rw[<-c];refine Az (λb9 wc Hc ka=>?_);refine Tz (λwd C=>?_);refine Sz (λSa=>?_) (λSa=>?_)
  . refine V7 ?_
    have ay:gI cols p r=([],false,v.2):=by
      unfold gI;rw[zab j,<-c,zac];exact .inl (by assumption)
    exact⟨.slice none 0 0,by rw[ay];rfl,trivial,by rw[ay];exact(Sep.iX C 48 3 aj).first.bf⟩
  refine V4 ?_;refine eO (t:=35) rfl (λSb=>?_) (λSb=>?_)
  . refine V5 ?_
    have ay:gI cols p r=([],false,v.2):=by
      unfold gI;rw[zab j,<-c,zac];exact .inr (.inl (by assumption))
    exact⟨.slice none 0 0,by rw[ay];rfl,trivial,by rw[ay];exact(Sep.iX C 48 3 aj).first.bf⟩
  refine Cz (λIf=>?_) (λIf=>?_)
  . refine V4 ?_
    have ay:gI cols p r=([],false,v.2):=by
      unfold gI;rw[zab j,<-c,zac];exact .inr (.inr (by assumption))
    exact⟨.slice none 0 0,by rw[ay];rfl,trivial,by rw[ay];exact(Sep.iX C 48 3 aj).first.bf⟩
  refine V0 ?_;have e: ¬(v.2≠0\/v.1.null=true\/v.1.n=0):=by simp_all
  refine eP (hb4.aK C.au) (h:=?_);refine V2 ?_;refine aM (λx:(OA×Nat)×Nat=>[(0,vr),(5,.slice x.1.1 (fq cols r (p.cols.take x.2)).1.length x.1.2),(6,.bool false),(7,I v.2),(41,.slice G gl.length cG),(42,I gl.length),(43,I x.2)]) (λx w'=>(x.2<=gl.length/\(fq cols r (p.cols.take x.2)).2=0/\(fq cols r (p.cols.take x.2)).1.length<=x.2)/\Mw.Sep w noB [aY 48 3 aj (.slice x.1.1 (fq cols r (p.cols.take x.2)).1.length x.1.2) (fq cols r (p.cols.take x.2)).1] w') (λx _=>gl.length-x.2) ((none,0),0) tR ⟨⟨zai _,rfl,zbk _⟩,(Sep.iX C 48 3 aj).first⟩ (λx τ we hI=>?_);obtain⟨⟨X,cX⟩,i⟩:=x;obtain⟨⟨hi,s,hcl⟩,d⟩:=hI;dsimp only at hi s hcl d;refine Lp ?_;refine Cz (λIg=>?_) (λIg=>?_)
  . have O:i<gl.length:=oM
    obtain⟨g,hg⟩:=aN O;obtain⟨o,ho⟩:=aN (l:=p.cols) (show i<p.cols.length from oM);obtain⟨bs,sv,rfl,hbs,hsv⟩:=M.2 i g o hg ho;have htk:p.cols.take (i+1)=p.cols.take i++[o]:=by rw[zaq,ho,zct]
    have k:=Nj (o:=o) s;rw[<-htk]at k;obtain⟨y,K⟩: ∃y,y=j6 cols o.steps r:=⟨_,rfl⟩;rw[<-K]at k;refine V0 ?_;refine Vv (ah.fT rfl rfl hG O) (Vv (ah.dY (f:=0) rfl (Sep.aI _) (hG.aK d.au) hg rfl) ?_);refine V3 ?_;refine fQ (fs:=[]) (cs:=[aC b1,aC bs]) (vals:=[vr]) rfl (aa0 (b:=b) (cols:=cols) (l:=o.steps) (Q.aK d.au) (T.aK d.au) (hbs.aK d.au) (V.aK d.au) (hsv.aK d.au) (Y.aK d.au) W (hfc o (zag ho)) (R.aK d.au)) rfl rfl (λv' wf hv=>?_);obtain⟨rfl,A⟩:=hv;have Hf:=d.aK A;rw[<-K];refine Az (λb12 wg Hg kb=>?_);refine Tz (λwi Z=>?_);refine Cz (λD=>?_) (λD=>?_)
    . rw[zac D]at k
      have hcb:(fq cols r (p.cols.take (i+1))).2≠0:=by rw[k];exact D
      have a:=QH (m:=p.cols.drop (i+1)) hcb;rw[zbs,k]at a
      have ay:gI cols p r=([],false,y.2):=by
        unfold gI;rw[zab j,<-c,zab e,a,zac D]
      refine V4 ?_;exact⟨.slice none 0 0,by rw[ay];rfl,trivial,by rw[ay];exact(Sep.iX Z 48 3 aj).first.bf⟩
    rw[zab D]at k;refine V1 ?_;refine gF Z (cs:=aj y.1) (h:=?_);refine Bs Z ([y.1].flatMap aj) (λbq wj Hi kc=>?_);refine eH Hi (news:=[y.1]) At1 kJ kM (dW (λ_=>rfl) _) (h:=?_);intro v59 wk S;rw[show(fq cols r (p.cols.take i)).1++[y.1]=(fq cols r (p.cols.take (i+1))).1 by rw[k]]at S;obtain⟨X2,cX2,rfl,_,_⟩:=Sep.bX S At1;refine V3 ?_;exact ak ((X2,cX2),i+1) tR ⟨⟨dO,by dsimp only;rw[k],by dsimp only;rw[k];dsimp only;rw[zad,zaf];omega⟩,S.bN⟩ dO
  have N:p.cols.take i=p.cols:=zaj oM;rw[N]at s d
  have ay:gI cols p r=((fq cols r p.cols).1,true,0):=by
    unfold gI;rw[zab j,<-c,zab e,zab (λh=>h s)]
  refine V4 ?_;exact⟨_,by rw[ay];rfl,trivial,by rw[ay,N];exact d.bf⟩
variable {l:List aH}
def Nk {x:aH} (h:(bL cols p l).2=0):
    bL cols p (l++[x])=if(gI cols p x.row).2.2≠0 then([],(gI cols p x.row).2.2)else((bL cols p l).1++(if(gI cols p x.row).2.1=true then [⟨(gI cols p x.row).1,x.w⟩]else []),0):=by
  induction l with
  | nil=>
    show(if(gI cols p x.row).2.2≠0 then([],(gI cols p x.row).2.2)else if(0:Int)≠0 then([],0)else if(gI cols p x.row).2.1=true then([⟨(gI cols p x.row).1,x.w⟩],0)else(([]:List aH),0))=_
    split
    . rfl
    rw[zab dC]
    split<;>rfl
  | cons y l i=>
    rw[bL]at h;rw[zcb,bL,bL]
    split at h
    . rename_i k;exact zas h k
    rename_i k;rw[zab k,zab k]
    split at h
    . rename_i a;exact zas h a
    rename_i a;rw[zab a,i (Decidable.of_not_not a)]
    split
    . rename_i b;first | rfl | rw[zac b]
    rename_i b;rw[zab (λh=>h rfl)]
    split<;>split<;>rfl
def Nl {l m:List aH} (h:(bL cols p l).2≠0):bL cols p (l++m)=([],(bL cols p l).2):=by
 induction l with
 | nil=>exact zas rfl h
 | cons y l i=>
  rw[bL]at h;rw[zcb,bL,bL]
  split at h
  .rename_i k;rw[zac k,zac k]
  rename_i k;rw[zab k,zab k]
  split at h
  .rename_i a
   rw[zac a,i a,zac a]
  split at h<;>exact zas rfl h
structure lG (p:aU) (T:List aH):Prop where
 tell:(dP p.group p.cols.length T).2=0
 items: ∀o∈T,Bu p.cols.length o
 few:T.length<=100
def ah2 {n:Nat} {o:aH} (h:Bu n o):iA o.row:=λc k=>by
 have:=h.2.2 c k;unfold En cB at this;exact⟨this.1,oM⟩
def Xf (b:Nat):vU prog 107 (aC b) "millstream/view.put" 384 (aC b):=λw=>kR
def Xh (b:Nat):vU prog 130 (aC b) "millstream/view.put" 388 (aC b):=λw=>kR
def TL (b:Nat):vU prog 107 (aC b) "millstream/view.rows" 385 (aC b):=λw=>kR
def TM (b:Nat):vU prog 130 (aC b) "millstream/view.rows" 389 (aC b):=λw=>kR
variable {F:NP}
def Ey {p:aU} (H:Mw.Sep w0 S (sW kv p T::rs) w): ∃t b,kv=.iface t (aC b):=by
 unfold sW at H
 split at H
 .obtain⟨x,k⟩:=Sep.ex0 H
  obtain⟨h,_⟩:=Sep.ru k.bW;exact⟨_,_,h⟩
 obtain⟨x,k⟩:=Sep.ex0 H;obtain⟨h,_⟩:=Sep.ru k.bW;exact⟨_,_,h⟩
def ah3 {kv v:Value} {T m:List aH} (S:(sW kv p T).ok F w) (X:Aq w F v m) (Y: ∀k,aS F w k->gK k) (Z:1<=p.cols.length/\p.cols.length<=16/\ -1<=p.group/\p.group<=p.cols.length) (C:lG p T) (d: ∀o∈m,Bu p.cols.length o) (O:m.length<=100):
    ∃(t:Td) (b:Nat) (f:FuncId),kv=.iface t (aC b)/\vU prog t (aC b) "millstream/view.put" f (aC b)/\qB prog f/\aX prog f [aC b,v] w λu W=>∃x:Value×List fH,u=.tuple #[x.1,I (iL p.group p.cols.length T m).2]/\x.2.map (·.2)=(iL p.group p.cols.length T m).1/\cO F (dx (dB x.1 x.2) (sW kv p (if(iL p.group p.cols.length T m).2=0 then T++m else T))) w W:=by
  have H:=Sep.dA S;unfold sW at H
  by_cases j:p.group<0
  . rw[zac j]at H
    obtain⟨⟨b,tv⟩,J⟩:=Sep.ex0 H;obtain⟨rfl,K⟩:=Sep.ru J.bW;have P:(dJ T).2=0:=by have:=C.tell;unfold dP at this;rw[zac j]at this;exact this
    have Q:=afH (n:=p.cols.length) (m:=m) j P;obtain⟨E,y,s,a⟩:=K.bG At0;have i: ∀k,aS E w k->aS F w k:=λk c=>Mw.aS.into (aS.refl _ _) s c;refine⟨_,b,_,rfl,Xf b,eT,aX.mono (WL y (λk c=>X.is k (i k c)) ?_ oM ?_ (λo g=>(d o g).1) ?_ (λo g=>by rw[(d o g).2.1];omega)) λu W V=>?_⟩
    . exact zcl (FT T) (by have:=C.few;omega)
    . exact λo g=>by have h:=zbe ((sj (l:=T)).2.2 o g);unfold cB;omega
    . exact λo g=>by obtain⟨q,z,e⟩:=Jq g;rw[<-e,(C.items q z).2.1];omega
    obtain⟨⟨x,kv2⟩,rfl,D,L,G,z,R⟩:=V;rw[Q]at D z ⊢;dsimp only at D z ⊢;exact⟨x,rfl,D,((yD j ((a _ G _ L z R).bW.aJ.bW)).aJ.aZ).bf⟩
  rw[zab j]at H;obtain⟨⟨b,bg,bh⟩,J⟩:=Sep.ex0 H;obtain⟨rfl,K⟩:=Sep.ru J.bW;obtain⟨E,y,s,a⟩:=K.bG At0;have i: ∀k,aS E w k->aS F w k:=λk c=>Mw.aS.into (aS.refl _ _) s c;have N:=aeW (m:=m) j C.tell;have A:xq (p.cols.length-p.group.toNat) (T.map (fV p.group.toNat))=true:=((jQ j).1 C.tell).2;have M:Aq w E v m:=by obtain⟨r,hr⟩:=X;exact⟨r,λk c=>hr k (i k c)⟩
  refine⟨_,b,_,rfl,Xh b,eT,aX.mono (OL y M (λk c=>Y k (i k c)) oM oM (λo g=>⟨(d o g).1,by rw[(d o g).2.1];omega,ah2 (d o g)⟩) O A) λu W V=>?_⟩;obtain⟨x,rfl,D,L,G,z,R⟩:=V;rw[N];refine⟨x,rfl,D,((yE (b:=b) (bg:=bg) (bh:=bh) j (T:=if(yY p.group.toNat (p.cols.length-p.group.toNat) (T.map (fV p.group.toNat)) (m.map (fV p.group.toNat))).2=0 then T++m else T) ?_).aJ.aZ).bf⟩;have c:=(a _ G _ L z R).bW.aJ.bW
  have e:(if(yY p.group.toNat (p.cols.length-p.group.toNat) (T.map (fV p.group.toNat)) (m.map (fV p.group.toNat))).2=0 then T++m else T).map (fV p.group.toNat)=if(yY p.group.toNat (p.cols.length-p.group.toNat) (T.map (fV p.group.toNat)) (m.map (fV p.group.toNat))).2=0 then T.map (fV p.group.toNat)++m.map (fV p.group.toNat)else T.map (fV p.group.toNat):=by
    split
    . rw[zan]
    rfl
  rw[e];exact c
def afW (C:(sW kv p T).ok F w) (z:1<=p.cols.length/\p.cols.length<=16/\ -1<=p.group/\p.group<=p.cols.length) (d:lG p T):
    ∃(t:Td) (b:Nat) (f:FuncId),kv=.iface t (aC b)/\vU prog t (aC b) "millstream/view.rows" f (aC b)/\qB prog f/\aX prog f [aC b] w λu v=>∃x:Value×List fH,u=x.1/\x.2.map (·.2)=(dP p.group p.cols.length T).1/\cO F (dx (dB x.1 x.2) (sW kv p T)) w v:=by
  have H:=Sep.dA C;unfold sW at H
  by_cases k:p.group<0
  . rw[zac k]at H
    obtain⟨⟨b,G⟩,i⟩:=Sep.ex0 H;obtain⟨rfl,j⟩:=Sep.ru i.bW;have e:dP p.group p.cols.length T=dJ T:=by unfold dP;rw[zac k]
    obtain⟨y,a,l,h⟩:=j.bG At0;refine⟨_,b,_,rfl,TL b,eT,aX.mono (TH a ?_ ?_) λu v r=>?_⟩
    . exact zcl (FT T) (by have:=d.few;omega)
    . exact λo A=>by obtain⟨q,c,e⟩:=Jq A;rw[<-e,(d.items q c).2.1];omega
    obtain⟨x,rfl,s,m,g,c,n⟩:=r;rw[e];exact⟨x,rfl,s,((yD k ((h _ g _ m c n).bW.aJ.bW)).aJ.aZ).bf⟩
  rw[zab k]at H;obtain⟨⟨b,D,E⟩,i⟩:=Sep.ex0 H;obtain⟨rfl,j⟩:=Sep.ru i.bW;obtain⟨y,a,l,h⟩:=j.bG At0;refine⟨_,b,_,rfl,TM b,eT,aX.mono (Ni a (by rw[zae];have:=d.few;omega) (lT ((jQ k).1 d.tell).1) oM) λu v r=>?_⟩;obtain⟨x,rfl,s,m,g,c,n⟩:=r;rw[jJ k d.tell];exact⟨x,rfl,s,((yE k ((h _ g _ m c n).bW.aJ.bW)).aJ.aZ).bf⟩
def Nn {T:List aH} (y:(j4 b cols p T).ok F w) (d:(bD cols p).2=0) (A:lG p T):
    aX prog 28 [aC b] w λu E=>∃x:Value×List fH,u=x.1/\x.2.map (·.2)=(dP p.group p.cols.length T).1/\cO F (dx (dB x.1 x.2) (j4 b cols p T)) w E:=by
  obtain⟨z,N,L,O,H⟩:=Ew (Sep.dA y);obtain⟨D,J,rfl⟩:=Ey H.aJ;refine dL func28 ?_;refine Kz (Na (H.obj At0) (.inr ⟨rfl,D,_,rfl⟩)) (λQ q M=>?_);refine Qn (Cd rfl (λc=>?_) (λc=>?_))
  . exact Bool.noConfusion c
  refine V3 ?_;refine eP (q.obj At0) (h:=?_);obtain⟨G,l,v,a⟩:=q.bG At1;obtain⟨t,K,f,i,j,e,k⟩:=afW l (nE d) A;refine Xu (he:=e) (vals:=[]) i j k rfl rfl (λP R o=>?_);obtain⟨x,rfl,C,g,r,m,n⟩:=o;have s:=a _ r _ g m n;refine V1 ?_;exact⟨x,rfl,C,((uL (s.aJ.bW.bB.aR.bB)).aJ.aZ).bf⟩
theorem Jz (hp:(j4 b cols p T).ok F w) (hl:Aq w F v l) (hT: ∀d,aS F w d->gK d) (hck:(bD cols p).2=0) (hfw:bY p.wh) (hfc: ∀o∈p.cols,bY o.steps) (hv:lG p T) (hlf: ∀x∈l,dQ x) (hln:l.length<=100):
    aX prog 24 [aC b,v] w λu w'=>∃x:Value×List fH,u=.tuple #[x.1,I (dN cols p T l).2]/\x.2.map (·.2)=(dN cols p T l).1/\cO F (dx (dB x.1 x.2) (j4 b cols p (eU cols p T l))) w w':=by
  obtain⟨z,kv,fv,o1,H⟩:=Ew (Sep.dA hp);obtain⟨t0,b0,aop⟩:=Ey H.aJ;have hnm:=nE hck;obtain⟨r,K⟩:=hl;obtain⟨⟨A,c,rfl,⟨hc,hc'⟩,_⟩,D⟩:=K w (aS.refl _ _);have EO:=D.len;refine dn func24 ?_;refine Kz (Na (H.obj At0) (.inr ⟨rfl,t0,_,aop⟩)) (λw5 H5 k4=>?_);refine Qn (Cd rfl (λhc6=>?_) (λhc6=>?_))
  . exact Bool.noConfusion hc6
  refine V4 ?_;refine Vv (ah.makeFunc (us:=[aC b]) (vs:=[]) rfl rfl) ?_;obtain⟨F0,W,hS0,e⟩:=((H5.aJ).aR.aR.aZ).bG At0;refine aO (ajL W oM) rfl rfl (λv' wa J=>?_);obtain⟨gv,s,F1,C,G⟩:=J;have Ha:=(e _ F1 _ s C G).bW;obtain⟨N,P,O,rfl,_⟩:=(Sep.dh Ha At1).2;have Ha:=Sep.qJ (Y:=λw=>lY w z cols p (bD cols p).1/\TK w b N P O p) Ha At1 (λw h=>⟨h.1,ada h.2⟩);refine V4 ?_;refine aM (λx:(OA×Nat)×List fH×Nat=>[(0,aC b),(6,.slice x.1.1 (aW x.2.1).length x.1.2),(20,.slice A r.length c),(21,I r.length),(22,I x.2.2)]) (λx w'=>(x.2.2<=r.length/\(bL cols p (l.take x.2.2)).2=0/\x.2.1.map (·.2)=(bL cols p (l.take x.2.2)).1)/\Mw.Sep w F [aY 25 2 aD (.slice x.1.1 (aW x.2.1).length x.1.2) (aW x.2.1),lW x.2.1,blk b (sV z p.group kv 1 0 0 (Ky N P O)) 126,(fA λw=>lY w z cols p (bD cols p).1/\TK w b N P O p),sW kv p T] w') (λx _=>r.length-x.2.2) ((none,0),[],0) tR ⟨⟨zai _,rfl,rfl⟩,Sep.gQ (bU Ha) 25 2⟩ (λx τ wb hI=>?_);obtain⟨⟨X,cX⟩,L,i⟩:=x;obtain⟨⟨hi,hi0,n⟩,Hb⟩:=hI;dsimp only at hi hi0 n Hb
  have aoq:L.length<=i:=by
    have a:=zay List.length n;rw[zae]at a;have h2:=mP (cols:=cols) (p:=p) (l.take i);rw[zah]at h2;omega
  have hLr:(aW L).length=L.length:=zae _;refine Lp ?_;refine Cz (λIe=>?_) (λIe=>?_)
  . have yL:i<r.length:=oM
    obtain⟨o,ho⟩:=aN (l:=l) (show i<l.length from oM);have hof:=hlf o (zag ho);obtain⟨vo,hvo,hso⟩:=D.get ho
    have aor: ∀d,aS F w d->aP d vo aj 3 o.row:=λd a=>by
      obtain⟨vo2,g,aos⟩:=(K d a).2.get ho;rw[hvo]at g;injection g with g
      injection g with e1 e2
      rw[e1];exact aos
    obtain⟨V,cv,rfl,_,_⟩:=hso;have htk:l.take (i+1)=l.take i++[o]:=by rw[zaq,ho,zct]
    have k:=Nk (x:=o) hi0;rw[<-htk]at k;obtain⟨j,hmd⟩: ∃j,j=gI cols p o.row:=⟨_,rfl⟩;rw[<-hmd]at k;refine V0 ?_;refine Vv (ah.fT rfl rfl (bJ (K _ Hb.au).1) yL) (Vv (ah.iT rfl (Sep.aI _) (bJ (K _ Hb.au).1) hvo) ?_);refine Az (λb8 wc Hc ka=>?_);refine Tz (λwd Hd=>?_);refine Dz (λSa we Z=>?_);refine V6 ?_;obtain⟨pf,gw,gl,g1,⟨gbp,gpf⟩,⟨gb4,ggv⟩,ggl⟩:=(Sep.dh Z At4).2;refine lH Sa 6 _ (y:=.tmp 30) (fs:=[]) (cs:=[aC N,aC P,aC O]) (vals:=[.slice V o.row.length cv]) rfl (afV (cols:=cols) (p:=p) (r:=o.row) (b:=b) (E:=126) g1 gbp gpf gb4 ggv ggl (Z.obj At3) (Sep.dh Z At4).1.1 (aor _ Z.au) hof.2 hfw hfc oM (hT _ Z.au)) (h:=λv' wf J=>?_);obtain⟨xv,rfl,_,s,F1,C,G⟩:=J;have Hf:=Z.new s C (λb hb=>(G b hb).resolve_left id);rw[<-hmd]at Hf ⊢;obtain⟨M,Q,rfl,_,_⟩:=Sep.bX Hf At0;refine⟨sT,?_⟩;refine Cz (λS=>?_) (λS=>?_)
    . rw[zac S]at k
      have aaf:(bL cols p (l.take (i+1))).2≠0:=by rw[k];exact S
      have hst:=Nl (m:=l.drop (i+1)) aaf;rw[zbs,k]at hst;have q:dN cols p T l=([],j.2.2):=by unfold dN;rw[hst,zac S]
      have hbe:eU cols p T l=T:=by unfold eU;rw[q,zab S]
      refine V3 ?_;exact⟨(.slice none 0 0,[]),by rw[q];rfl,by rw[q];rfl,by
      rw[hbe];have a:=Sep.qJ (Y:=λw=>lY w z cols p (bD cols p).1/\(((1:Int)=0/\Ky N P O=.nilFunc)\/((1:Int)=1/\qb w b (Ky N P O) p))) Hf At5 (λw h=>⟨h.1,.inr ⟨rfl,_,_,_,rfl,h.2⟩⟩);exact(Sep.gQ (bU (uL (a.iy.jq.jq)).first) 25 2).aZ.aZ.bf⟩
    rw[zab S]at k;refine O1 ?_;refine Qn (Cd rfl (λIg=>?_) (λIg=>?_))
    . rw[zac Ig]at k
      refine V4 ?_;refine Vb (aD (.slice M j.1.length Q,o.w)) ?_;refine Bs Hf ([(Value.slice M j.1.length Q,o.w)].flatMap aD) (λbq wg Hg kb=>?_);refine eH Hg (news:=[(Value.slice M j.1.length Q,o.w)]) At2 kJ kM (λu hu=>zaz.1 (show([(Value.slice M j.1.length Q,o.w)].flatMap aD).all Value.oneCell'=true from rfl) u hu) (h:=?_);intro v47 wi Hh;obtain⟨X2,cX2,rfl,_,_⟩:=Sep.bX Hh At2
      have hLe:aW L++[(Value.slice M j.1.length Q,o.w)]=aW (L++[(Value.slice M j.1.length Q,⟨j.1,o.w⟩)]):=by
        unfold aW;rw[zan];rfl
      refine V1 ?_;refine Vc ((i+1:Nat):Int) ?_;refine V1 ?_;have a:=(iO (x:=.slice M j.1.length Q) (o:=⟨j.1,o.w⟩) (Hh.aJ.bN.aR.aJ)).aJ;rw[hLe]at a;exact ak ((X2,cX2),L++[(.slice M j.1.length Q,⟨j.1,o.w⟩)],i+1) ⟨rfl,by rw[<-hLe];rfl,rfl,rfl,rfl,trivial⟩ ⟨⟨dO,by dsimp only;rw[k],by dsimp only;rw[k,zan,n];rfl⟩,a⟩ dO
    rw[zab (by rw[Ig];decide),zbt]at k;refine V2 ?_;exact ak ((X,cX),L,i+1) tR ⟨⟨dO,by dsimp only;rw[k],by dsimp only;rw[k];exact n⟩,Hf.bN.bN⟩ dO
  have Gq:l.take i=l:=zaj oM;rw[Gq]at hi0 n;have q:dN cols p T l=iL p.group p.cols.length T (bL cols p l).1:=by unfold dN;rw[zab (λh=>h hi0)]
  refine V3 ?_;refine eP (Hb.obj At2) (h:=?_);refine Mv ?_;have hmo: ∀o∈(bL cols p l).1,Bu p.cols.length o:=y5 hfc hlf;have hml:(bL cols p l).1.length<=100:=zcl (mP l) hln;have Hi:=Hb.aZ;obtain⟨F0,W,hS0,hQ0,e⟩:=Sep.BA Hi At2;have hK0: ∀d,aS F0 _ d->aS F w d:=λd a=>Mw.aS.into Hi.au hS0 a
  obtain⟨t,bk,f,hkv,hme,hen,R⟩:=ah3 (v:=.slice X (aW L).length cX) (m:=(bL cols p l).1) W ⟨aW L,λd a=>by
    obtain⟨Fq,F1,F2,_,_,g1,g2⟩:=hQ0 d a;refine⟨nH g1,?_⟩;have:=vD g2;rw[n]at this;exact this⟩ (λd a=>hT d (hK0 d a)) hnm hv hmo hml
  refine Xu (he:=hen) (vals:=[.slice X (aW L).length cX]) hkv hme R rfl rfl (λv' wj J=>?_);obtain⟨x,rfl,hx,s,F1,C,G⟩:=J;have Hi:=e _ F1 _ s C G;rw[<-q]at hx Hi ⊢;refine V4 ?_;have a:=Sep.qJ (Y:=λw=>lY w z cols p (bD cols p).1/\(((1:Int)=0/\Ky N P O=.nilFunc)\/((1:Int)=1/\qb w b (Ky N P O) p))) Hi At2 (λw h=>⟨h.1,.inr ⟨rfl,_,_,_,rfl,h.2⟩⟩);exact⟨x,rfl,hx,((uL (a.bN.aR.bW.bB.aR.bB)).aJ.aZ).bf⟩
def holds_nil (p:aU):lG p []:=⟨by rw[aeS],λo h=>zas h zal,zai _⟩
def l5 {cols:List bF} (b:lG p T) (k: ∀o∈p.cols,bY o.steps) (a: ∀x∈l,dQ x) (c:T.length+l.length<=100):lG p (eU cols p T l):=by
 refine⟨Kk b.tell,λo h=>?_,?_⟩
 .unfold eU at h
  split at h
  .rcases zbh.1 h with h | h
   .exact b.items o h
   exact y5 k a o h
  exact b.items o h
 unfold eU
 split
 .rw[zad]
  have:=mP (cols:=cols) (p:=p) l;omega
 omega
def Np (m:aP w vc aL 7 cols) (a:cols.length<=1000) (r:fK w vp p) (d:bY p.wh) (c: ∀o∈p.cols,bY o.steps) (q:p.cols.length<=100) (f:p.wh.length<=1000) (k: ∀o∈p.cols,o.steps.length<=1000) (l:gK w):
    aX Tryz.prog 18 [vc,vp] w λu i=>∃g:Value,u=.tuple #[g,I (bD cols p).2]/\aS noB w i/\((bD cols p).2≠0->g=.pointer none)/\((bD cols p).2=0->∃b:Nat,g=aC b/\cO noB (j4 b cols p []) w i):=
  aX.mono (ah1 m a r d c q f k l) λu i h=>by
    by_cases e:(bD cols p).2=0
    . obtain⟨b,rfl,j⟩:=h.2 e
      exact⟨aC b,by rw[e],j.1,λh=>zas e h,λ_=>⟨b,rfl,j⟩⟩
    obtain⟨rfl,n⟩:=h.1 e;exact⟨.pointer none,rfl,n,λ_=>rfl,λh=>zas h e⟩
def qc {cols:List bF} {p:aU} {l:List aH} (hc:aP w vc aL 7 cols) (R:cols.length<=1000) (hp:fK w vp p) (hl:dM w v l) (z:bY p.wh) (e: ∀o∈p.cols,bY o.steps) (hn:p.cols.length<=100) (hw1:p.wh.length<=1000) (Q: ∀o∈p.cols,o.steps.length<=1000) (C: ∀x∈l,dQ x) (D:l.length<=100) (hT:gK w):
    aX Tryz.prog 33 [vc,vp,v] w λu w'=>∃x:Value×List fH,u=.tuple #[x.1,I (fI cols p l).2]/\x.2.map (·.2)=(fI cols p l).1/\cO noB (dB x.1 x.2) w w':=by
  have X:=hp;obtain⟨vw,vq,rfl,hw,r,hr,ad8⟩:=hp;obtain⟨W,cw,rfl,_,_⟩:=id hw;obtain⟨A,m,rfl,_,_⟩:=id hr;obtain⟨q,hq,S⟩:=hl;have H:=Sep.aI w;refine uU Tryz.func33 ?_;refine Sr (bK H (cs:=[.slice W p.wh.length cw,.slice A r.length m,I p.group]) rfl (h:=λb4 w2 s k1=>?_));refine V3 ?_;refine gF s (cs:=[.slice W p.wh.length cw,.slice A r.length m,I p.group]) (h:=?_);refine aO (Np (hc.aK s.au) R (X.aK s.au) z e hn hw1 Q (hT.aK s.au)) rfl rfl (λv' w8 J=>?_);obtain⟨pv,rfl,V,_,P⟩:=J
  have E:(bD cols p).2=0->∃b:Nat,pv=aC b/\Mw.Sep w noB (j4 b cols p []::_) w8:=λh=>by
    obtain⟨b,rfl,f,F1,j,n⟩:=P h;exact⟨b,rfl,s.new f j (λb P=>(n b P).resolve_left id)⟩
  have H8:=s.aK V;refine Cz (λL=>?_) (λL=>?_)
  . have If:=L
    have a:fI cols p l=([],(bD cols p).2):=by unfold fI;rw[zac If]
    refine V3 ?_;exact⟨(.slice none 0 0,[]),by rw[a];rfl,by rw[a];rfl,(Sep.gQ (bU H8) 25 2).aZ.first.bf⟩
  have k:(bD cols p).2=0:=Decidable.of_not_not L;obtain⟨b,rfl,Ha⟩:=E k;refine V2 ?_;obtain⟨F0,Y,N,g⟩:=Ha.bG At0;have d: ∀c,aS F0 _ c->aS noB w c:=λc t=>Mw.aS.into Ha.au N t;refine aO (Jz Y ⟨q,λc t=>⟨hq.aK (d c t),S.aK (d c t)⟩⟩ (λc t=>hT.aK (d c t)) k z e (holds_nil p) C D) rfl rfl (λv' wa J=>?_);obtain⟨x,rfl,hx,f,F1,j,n⟩:=J;have Hb:=g _ F1 _ f j n;refine Cz (λM=>?_) (λM=>?_)
  . have Ih:=M
    have a:fI cols p l=([],(dN cols p [] l).2):=by unfold fI;rw[zab (λh=>h k),zac Ih]
    refine V3 ?_;exact⟨(.slice none 0 0,[]),by rw[a];rfl,by rw[a];rfl,(Sep.gQ (bU Hb) 25 2).aZ.first.bf⟩
  have O:(dN cols p [] l).2=0:=Decidable.of_not_not M;have a:fI cols p l=((dP p.group p.cols.length (eU cols p [] l)).1,0):=by unfold fI;rw[zab (λh=>h k),zab (λh=>h O)]
  refine V1 ?_;have K:=Hb.bW;obtain⟨F2,G,hS2,i⟩:=K.bG At1;refine aO (Nn G k (l5 (holds_nil p) e C (by simpa using D))) rfl rfl (λv' wb J=>?_);obtain⟨y,rfl,hy,T,F3,Z,F⟩:=J;have K:=i _ F3 _ T Z F;refine V2 ?_;exact⟨y,by rw[a];rfl,by rw[a];exact hy,K.aJ.bW.first.bf⟩
def tO (cv wv pv:Value) (g:Int) (ov iv:Value):LV:=[cv,wv,pv,I g,ov,iv]
theorem afX {E:Td} {wv pv ov iv:Value} {q:List (L8×Value)} (g:iB w b (tO cv wv pv p.group ov iv) E) (Y:aP w cv aL 7 cols) (hP:oI w wv pv q p) (hr:aP w vr aj 3 r) (hf:mO r) (F:bY p.wh) (Z: ∀o∈p.cols,bY o.steps) (hn:p.cols.length<=100):
    aX Tryz.prog 109 [aC b,vr] w λu z=>∃x:Value,u=.tuple #[x,.bool (gI cols p r).2.1,I (gI cols p r).2.2]/\True/\cO noB (aY 48 3 aj x (gI cols p r).1) w z:=by
  have H:=Sep.aI w;obtain⟨hw,hq,D⟩:=hP;obtain⟨W,cw,rfl,_,_⟩:=id hw;obtain⟨A,c,rfl,⟨hcA,aml⟩,hA⟩:=hq;have EO:=D.len;refine dn Tryz.func109 ?_;refine V6 ?_;refine eP (g.aK H.au) (h:=?_);refine Mv ?_;refine Kz (N9 (Y.aK H.au) (hr.aK H.au)) (λwa Ha k9=>?_);refine Cz (λIe=>?_) (λIe=>?_)
  . have ay:gI cols p r=([],false,d9 cols r):=by unfold gI;rw[zac Ie]
    refine V4 ?_;exact⟨.slice none 0 0,by rw[ay];rfl,trivial,by rw[ay];exact(Sep.iX Ha 48 3 aj).bf⟩
  have l:=Ie;refine Sk (dU (λ_:Unit=>[(0,aC b),(1,vr)]) (λ_ z=>(¬((qo cols p.wh r).2≠0\/(qo cols p.wh r).1.null=true\/(qo cols p.wh r).1.n=0))/\Mw.Sep w noB [] z) ?_ ?_)
  . refine V4 ?_
    refine eP (g.aK Ha.au) (h:=?_);refine Cz (λIf=>?_) (λIf=>?_)
    . have Q: ¬p.wh=[]:=λe=>by have h:=If;rw[e]at h;simp at h
      have N:qo cols p.wh r=j6 cols p.wh r:=by unfold qo;rw[zab Q]
      obtain⟨R,j⟩: ∃R,R=qo cols p.wh r:=⟨_,rfl⟩;rw[<-j]at N;refine dU (λx:Nat=>[(0,aC b),(1,vr),(4,.slice none 0 0),(5,.bool false),(6,I 0),(8,aC x),(9,I R.2)]) (λx z=>Mw.Sep w noB [blk x (aj R.1) 48] z) ?_ ?_
      . refine Dz (λS wb G=>?_)
        refine V3 ?_;refine GS (Gt rfl (ah.nP rfl (g.aK G.au) rfl) ?_);refine V4 ?_;refine GS (Gt rfl (ah.nP rfl (g.aK G.au) rfl) ?_);refine V1 ?_;refine jw S (e1:=10) (e2:=14) kR ?_ ?_
        . refine Og S 10 _ G (CK (Y.aK G.au) (hw.aK G.au) (hr.aK G.au) hf F) (h:=λwc Hc ka=>?_)
          rw[<-N];refine⟨sT,?_⟩;refine V3 ?_;refine rX S 14 _ Hc (h:=λb8 wd Hd=>⟨sT,?_⟩);refine cu S 15 _ Hd (h:=λwe He=>⟨sT,?_⟩);refine V1 ?_;exact aA _ tR He
        refine jR S 14 [(9,true),(8,false),(7,true),(6,true),(5,true),(4,true),(3,false),(2,true),(1,true),(0,true)] G (h:=λb8 wf T=>⟨av ((bE rfl kR (ah.nP rfl (g.aK T.au) rfl) rfl (av (av (av (av ((bE rfl kR (ah.nP rfl (g.aK T.au) rfl) rfl (av (av (av (dw)))))))))))),?_⟩);refine dS S 10 _ T (CK (Y.aK T.au) (hw.aK T.au) (hr.aK T.au) hf F) (h:=λwg Hg kb=>?_);rw[<-N];refine⟨sT,?_⟩;refine V3 ?_;refine cu S 15 _ Hg (h:=λwi Hh=>⟨sT,?_⟩);refine V1 ?_;exact aA _ tR Hh
      rintro b8 τ wj Hi;refine Lp ?_;refine Cz (λIg=>?_) (λIg=>?_)
      . refine V4 ?_
        have ay:gI cols p r=([],false,R.2):=by
          unfold gI;rw[zab l,<-j,zac (.inl (by assumption))]
        exact⟨.slice none 0 0,by rw[ay];rfl,trivial,by rw[ay];exact(Sep.iX Hi 48 3 aj).first.bf⟩
      refine V3 ?_;refine eO (t:=49) rfl (λSb=>?_) (λSb=>?_)
      . refine V4 ?_
        have M:R.2=0:=Decidable.of_not_not (by assumption)
        have ay:gI cols p r=([],false,0):=by
          unfold gI;rw[zab l,<-j,zac (by simp_all),M]
        exact⟨.slice none 0 0,by rw[ay];rfl,trivial,by rw[ay];exact(Sep.iX Hi 48 3 aj).first.bf⟩
      refine Cz (λIh=>?_) (λIh=>?_)
      . refine V3 ?_
        have M:R.2=0:=Decidable.of_not_not (by assumption)
        have ay:gI cols p r=([],false,0):=by
          unfold gI;rw[zab l,<-j,zac (by simp_all),M]
        exact⟨.slice none 0 0,by rw[ay];rfl,trivial,by rw[ay];exact(Sep.iX Hi 48 3 aj).first.bf⟩
      refine V0 ?_;exact aA () tR ⟨by rw[<-j];simp_all,Hi.bN⟩
    have Q:p.wh=[]:=zbf oM;have O: ¬((qo cols p.wh r).2≠0\/(qo cols p.wh r).1.null=true\/(qo cols p.wh r).1.n=0):=by unfold qo;rw[zac Q];decide
    refine V0 ?_;exact aA () tR ⟨O,Ha⟩
  rintro _ τ wk ⟨d,Hj⟩;refine Lp ?_;refine V2 ?_;refine aM (λx:(OA×Nat)×Nat=>[(0,aC b),(1,vr),(10,.slice x.1.1 (fq cols r (p.cols.take x.2)).1.length x.1.2),(11,I x.2)]) (λx z=>(x.2<=q.length/\(fq cols r (p.cols.take x.2)).2=0/\(fq cols r (p.cols.take x.2)).1.length<=x.2)/\Mw.Sep w noB [aY 48 3 aj (.slice x.1.1 (fq cols r (p.cols.take x.2)).1.length x.1.2) (fq cols r (p.cols.take x.2)).1] z) (λx _=>q.length-x.2) ((none,0),0) tR ⟨⟨zai _,rfl,zbk _⟩,(Sep.iX Hj 48 3 aj).first⟩ (λx τ wl hI=>?_);obtain⟨⟨X,cX⟩,i⟩:=x;obtain⟨⟨hi,v,hcl⟩,Hk⟩:=hI;dsimp only at hi v hcl Hk;refine Lp ?_;refine V5 ?_;refine eP (g.aK Hk.au) (h:=?_);refine Cz (λIi=>?_) (λIi=>?_)
  . have yL:i<p.cols.length:=oM
    obtain⟨vx,hx,P⟩:=D.at yL;have y:p.cols[i]? =some p.cols[i]:=zaa yL;obtain⟨o,ho⟩: ∃o,o=p.cols[i]:=⟨_,rfl⟩;rw[<-ho]at hx P y;have htk:p.cols.take (i+1)=p.cols.take i++[o]:=by rw[zaq,y,zct]
    have k:=Nj (o:=o) v;rw[<-htk]at k;obtain⟨s,L⟩: ∃s,s=j6 cols o.steps r:=⟨_,rfl⟩;rw[<-L]at k;refine Sk (zG (rZ (dU (λx:Nat=>[(0,aC b),(1,vr),(10,.slice X (fq cols r (p.cols.take i)).1.length cX),(11,I i),(12,aC x),(13,I s.2)]) (λx z=>Mw.Sep w noB [blk x (aj s.1) 48,aY 48 3 aj (.slice X (fq cols r (p.cols.take i)).1.length cX) (fq cols r (p.cols.take i)).1] z) ?_ ?_)))
    . refine Dz (λK wm C=>?_)
      refine V3 ?_;refine GS (Gt rfl (ah.nP rfl (g.aK C.au) rfl) ?_);refine V4 ?_;refine GS (Gt rfl (ah.nP rfl (g.aK C.au) rfl) ?_);refine V1 ?_;refine GS (Gn rfl (λ_=>ah.fT rfl rfl hA oM) ?_);refine V1 ?_;refine GS (Gt rfl (ah.dY (f:=1) rfl (Sep.aI _) (hA.aK C.au) hx rfl) ?_);refine V1 ?_;refine jw K (e1:=14) (e2:=18) kR ?_ ?_
      . refine Og K 14 _ C (CK (Y.aK C.au) (P.aK C.au) (hr.aK C.au) hf (Z o (zag y))) (h:=λwn Hm kc=>?_)
        rw[<-L];refine⟨sT,?_⟩;refine V3 ?_;refine rX K 18 _ Hm (h:=λV wo Hn=>⟨sT,?_⟩);refine cu K 19 _ Hn (h:=λwp Ho=>⟨sT,?_⟩);refine V1 ?_;exact aA _ tR Ho
      refine jR K 18 [(13,true),(12,false),(11,true),(10,true),(9,true),(8,false),(7,true),(6,true),(5,true),(4,true),(3,false),(2,true),(1,true),(0,true)] C (h:=λV wq J=>⟨av ((bE rfl kR (ah.dY (f:=1) rfl (Sep.aI _) (hA.aK J.au) hx rfl) rfl (av (av (av ((bE rfl kR (ah.nP rfl (g.aK J.au) rfl) rfl (av (av (av (av ((bE rfl kR (ah.nP rfl (g.aK J.au) rfl) rfl (av (av (av (dw))))))))))))))))),?_⟩);refine dS K 14 _ J (CK (Y.aK J.au) (P.aK J.au) (hr.aK J.au) hf (Z o (zag y))) (h:=λwr Hq kd=>?_);rw[<-L];refine⟨sT,?_⟩;refine V3 ?_;refine cu K 19 _ Hq (h:=λws Hr=>⟨sT,?_⟩);refine V1 ?_;exact aA _ tR Hr
    rintro V τ wt Hs;refine Lp ?_;refine Cz (λIj=>?_) (λIj=>?_)
    . rw[zac Ij]at k
      have Ik:=Ij;have hcb:(fq cols r (p.cols.take (i+1))).2≠0:=by rw[k];exact Ik
      have a:=QH (m:=p.cols.drop (i+1)) hcb;rw[zbs,k]at a
      have ay:gI cols p r=([],false,s.2):=by
        unfold gI;rw[zab l,zab d,a,zac Ik]
      refine V4 ?_;exact⟨.slice none 0 0,by rw[ay];rfl,trivial,by rw[ay];exact(Sep.iX Hs 48 3 aj).first.bf⟩
    rw[zab Ij]at k;refine V1 ?_;refine gF Hs (cs:=aj s.1) (h:=?_);refine Bs Hs ([s.1].flatMap aj) (λbq wu Ht ke=>?_);refine eH Ht (news:=[s.1]) At1 kJ kM (dW (λ_=>rfl) _) (h:=?_);intro v88 ww Hu;rw[show(fq cols r (p.cols.take i)).1++[s.1]=(fq cols r (p.cols.take (i+1))).1 by rw[k]]at Hu;obtain⟨X2,cX2,rfl,_,_⟩:=Sep.bX Hu At1;refine V4 ?_;exact ak ((X2,cX2),i+1) tR ⟨⟨dO,by dsimp only;rw[k],by dsimp only;rw[k];dsimp only;rw[zad,zaf];omega⟩,Hu.bN⟩ dO
  have Gq:p.cols.take i=p.cols:=zaj oM;rw[Gq]at v Hk
  have ay:gI cols p r=((fq cols r p.cols).1,true,0):=by
    unfold gI;rw[zab l,zab d,zab (λh=>h v)]
  refine V4 ?_;exact⟨_,by rw[ay];rfl,trivial,by rw[ay,Gq];exact Hk.bf⟩
end Go.Proofs.Mw
