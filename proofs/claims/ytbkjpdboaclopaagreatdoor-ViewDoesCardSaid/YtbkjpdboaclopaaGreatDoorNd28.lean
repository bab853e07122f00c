/-
 A view made;walked.
-/
import Derived.Test.YtbkjpdboaclopaaGreatDoorNd27
set_option linter.all false
set_option maxRecDepth 4000
namespace Go.Proofs.Mw
open Go.Lib Go.Proofs.Tryz
attribute [local irreducible] FW FL FG FGn jJ jO fC lJ Qfn Gives
variable {cols:List bT} {p:aW}
def mQ (h:(aZ cols p).2=0):1<=p.cols.length/\p.cols.length<=16/\ -1<=p.group/\p.group<=p.cols.length:=by
 cases hn:lC p with
 | true=>exact(rH hn).1
 | false=>unfold aZ at h;rw[zac hn]at h;exact zas h dC
variable {b:Nat}
def Dv {T:Td} (hT: ∀(b:Nat) (w:Wd),(Instr.makeInterface T (.pointer (some ⟨b,0,none⟩))).run prog w=.ok (.iface T (.pointer (some ⟨b,0,none⟩))) w) {ρ:Od->Value} {ty:Td} {x:Od} {w:Wd} (hx:ρ x=av b):Gives prog ρ (.makeInterface T x) ty w (.iface T (av b)) w:=
 Gives.aa2 (hT b) hx
def Cg (b:Nat) (w:Wd):(Instr.makeInterface 73 (.pointer (some ⟨b,0,none⟩))).run prog w=.ok (.iface 73 (.pointer (some ⟨b,0,none⟩))) w:=by kernel_rfl
def P8 (b:Nat) (w:Wd):(Instr.makeInterface 96 (.pointer (some ⟨b,0,none⟩))).run prog w=.ok (.iface 96 (.pointer (some ⟨b,0,none⟩))) w:=by kernel_rfl
variable {w w0:Wd} {S:NP} {rs:List HP}
variable {v:Value}
def ae6 {g:Int} {n E:Nat} (e:(n:Int)=g) (H:Mw.Sep w0 S (blk b [v,I g] E::rs) w):Mw.Sep w0 S (blk b [v,I (n:Int)] E::rs) w:=by rw[e];exact H
variable {T:List aG} {kv:Value}
def uN {z:KX} {fv:Value} {o1:Int} (H:Mw.Sep w0 S (blk b (sO z p.group kv o1 0 0 fv) 92::sP kv p T::fP (λw=>lS w z cols p (aZ cols p).1/\((o1=0/\fv=.nilFunc)\/(o1=1/\qb w b fv p)))::rs) w):Mw.Sep w0 S (jZ b cols p T::rs) w:=
 Sep.tY (p:=λx:KX×Value×Int×Value=>star (blk b (sO x.1 p.group x.2.1 x.2.2.1 0 0 x.2.2.2) 92) (star (sP x.2.1 p T) (fP λw=>lS w x.1 cols p (aZ cols p).1/\((x.2.2.1=0/\x.2.2.2=.nilFunc)\/(x.2.2.1=1/\qb w b x.2.2.2 p))))) (z,kv,o1,fv) (H.aO.aO.aR.aF.aR)
def EN {cols:List bT} {p:aW} (H:Mw.Sep w0 S (jZ b cols p T::rs) w): ∃(z:KX) (kv fv:Value) (o1:Int),Mw.Sep w0 S (blk b (sO z p.group kv o1 0 0 fv) 92::sP kv p T::fP (λw=>lS w z cols p (aZ cols p).1/\((o1=0/\fv=.nilFunc)\/(o1=1/\qb w b fv p)))::rs) w:=by
 obtain⟨⟨z,kv,o1,fv⟩,k⟩:=Sep.ex0 H;exact⟨z,kv,fv,o1,k.bE.aF.bE.aO⟩
def yB {tv:Value} {T:List aG} (hg:p.group<0) (H:Mw.Sep w0 S (blk b [tv] 75::BM tv (cO T).1::rs) w):Mw.Sep w0 S (sP (.iface 73 (av b)) p T::rs) w:=by
 unfold sP;rw[zac hg];exact Sep.tY (p:=λx:Nat×Value=>star (jk (Value.iface 73 (av b)=.iface 73 (av x.1))) (star (blk x.1 [x.2] 75) (BM x.2 (cO T).1))) (b,tv) (Sep.aR (Sep.jP rfl H.aR))
def yC {b bg bh:Nat} {T:List aG} (hg: ¬p.group<0) (H:Mw.Sep w0 S (blk b [av bg,I (p.group.toNat:Nat)] 98::star (blk bg (q8 p.group.toNat (p.cols.length-p.group.toNat) bh) 129) (GH bh (p.cols.length-p.group.toNat) (T.map (fu p.group.toNat)))::rs) w):Mw.Sep w0 S (sP (.iface 96 (av b)) p T::rs) w:=by
 unfold sP;rw[zaa hg];exact Sep.tY (p:=λx:Nat×Nat×Nat=>star (jk (Value.iface 96 (av b)=.iface 96 (av x.1))) (star (blk x.1 [av x.2.1,I (p.group.toNat:Nat)] 98) (star (blk x.2.1 (q8 p.group.toNat (p.cols.length-p.group.toNat) x.2.2) 129) (GH x.2.2 (p.cols.length-p.group.toNat) (T.map (fu p.group.toNat)))))) (b,bg,bh) (Sep.aR (Sep.jP rfl H.aR))
variable {vc vp:Value}
theorem akz (hc:aJ w vc aM 7 cols) (Pz:cols.length<=1000) (hp:fZ w vp p) (Bl:bC p.wh) (yK: ∀o∈p.cols,bC o.steps) (hn:p.cols.length<=100) (Bn:p.wh.length<=1000) (Tq: ∀o∈p.cols,o.steps.length<=1000) (hT:gT w):
    aQ prog 7 [vc,vp] w λu w'=>((aZ cols p).2≠0->u=.tuple #[.pointer none,I (aZ cols p).2]/\Kept noB w w')/\((aZ cols p).2=0->∃b:Nat,u=.tuple #[av b,I 0]/\Turn noB (jZ b cols p []) w w'):=by
  have eO:=hp;obtain⟨vw,vq,rfl,hw,r,hr,eP⟩:=hp;obtain⟨W,cw,rfl,_,_⟩:=id hw;obtain⟨A,m,rfl,_,_⟩:=id hr;have yL:=eP.len;have H:=Sep.aH w;refine bU func7 ?_;refine Sr (bB H (cs:=[.slice W p.wh.length cw,.slice A r.length m,I p.group]) rfl (h:=λb3 _ k _=>?_));refine V3 ?_;refine fQ k (cs:=[.slice W p.wh.length cw,.slice A r.length m,I p.group]) (h:=?_);refine Nz (aem (hc.keep k.kept) (eO.keep k.kept) Bl yK oM (hT.keep k.kept)) (λvo _ _ k _=>?_);obtain⟨O,co,rfl,_,_⟩:=Sep.bH k At0;refine Cz (λS=>?_) (λS=>?_)
  . have c:=S
    refine V3 ?_;exact⟨λ_=>⟨rfl,k.kept⟩,λh=>zas h c⟩
  have dN:(aZ cols p).2=0:=Decidable.of_not_not S;have Lm:=mQ dN;refine Sk (dB (λx:(OA×Nat)×(OA×Nat)×(OA×Nat)×List (L8×Value)×Nat×Nat=>[(3,av b3),(8,av x.2.2.2.2.2)]) (λx w'=>Mw.Sep w noB [blk x.2.2.2.2.2 (mo (.slice x.1.1 cols.length x.1.2) (.slice x.2.1.1 p.wh.length x.2.1.2) (.slice x.2.2.1.1 x.2.2.2.1.length x.2.2.1.2) p.group (.slice O (aZ cols p).1.length co) (.iface 73 (av x.2.2.2.2.1)) 0 0 0 .nilFunc) 92,blk x.2.2.2.2.1 [.slice none 0 0] 75,(fP λw=>oo w (.slice x.2.1.1 p.wh.length x.2.1.2) (.slice x.2.2.1.1 x.2.2.2.1.length x.2.2.1.2) x.2.2.2.1 p),aU 49 7 aM (.slice x.1.1 cols.length x.1.2) cols,aU 49 7 aM (.slice O (aZ cols p).1.length co) (aZ cols p).1,blk b3 [.slice W p.wh.length cw,.slice A r.length m,I p.group] 26] w') ?_ ?_)
  . refine Dz (λc _ S=>?_)
    refine V1 ?_;refine jU c 2 S (h:=?_);refine Gm c 4 ?_;refine Gb c 5 [.slice none 0 0] ?_;refine jQ c (e1:=1) (e2:=6) kR ?_ ?_
    . refine j3 c 1 [(5,true),(4,true),(2,false)] S (Ah (hc.keep S.kept) Pz) (h:=λy _ _ k _=>?_)
      obtain⟨Y,cy,rfl,_,_⟩:=Sep.bH k At0;refine⟨sU,?_⟩;refine jQ c (e1:=3) (e2:=6) kR ?_ ?_
      . refine j3 c 3 _ k (J2 (eO.keep k.kept) hn Bn Tq) (h:=λy _ _ d _=>?_)
        obtain⟨wv,pv,q⟩:=y;dsimp only at d ⊢;have hPA:oo _ wv pv q p:=Sep.sees d At0;obtain⟨WV,cwv,rfl,_,_⟩:=hPA.1;obtain⟨PV,cpv,rfl,_,_⟩:=hPA.2.1;refine⟨sT,?_⟩;refine NK c 6 _ d (cs:=[.slice none 0 0]) rfl rfl (h:=λbp _ d=>⟨sT,?_⟩);refine Gp c 7 rfl rfl (λ_=>(Dv Cg rfl)) (Gp c 8 rfl rfl (λ_=>(Gives.build (out:=mo (.slice Y cols.length cy) (.slice WV p.wh.length cwv) (.slice PV q.length cpv) p.group (.slice O (aZ cols p).1.length co) (.iface 73 (av bp)) 0 0 0 .nilFunc) (Fills.one rfl rfl rfl sM rfl (Fills.many rfl rfl (zbe rfl) rfl (Fills.one rfl rfl rfl (zbe rfl) rfl (Fills.one rfl rfl rfl (zbe rfl) rfl Fills.nil)))))) ?_);refine NK c 9 _ d (cs:=mo (.slice Y cols.length cy) (.slice WV p.wh.length cwv) (.slice PV q.length cpv) p.group (.slice O (aZ cols p).1.length co) (.iface 73 (av bp)) 0 0 0 .nilFunc) rfl rfl (h:=λb _ d=>⟨sT,?_⟩);refine V1 ?_
        first
        | exact au ((Y,cy),(WV,cwv),(PV,cpv),q,bp,b) tR d
        | exact au ((Y,cy),(WV,cwv),(PV,cpv),q,bp,b) tR d.aO.aS.aS.aS
        | exact au ((Y,cy),(WV,cwv),(PV,cpv),q,bp,b) tR d.aS.aO.aS.aS
        | exact au ((Y,cy),(WV,cwv),(PV,cpv),q,bp,b) tR d.aO.aO.aS.aS
        | exact au ((Y,cy),(WV,cwv),(PV,cpv),q,bp,b) tR d.aF.aS.aS.aS
        | exact au ((Y,cy),(WV,cwv),(PV,cpv),q,bp,b) tR d.aF.aO.aS.aS
      refine X7 c 6 [(4,true),(2,false)] k (cs:=[.slice none 0 0]) rfl rfl (h:=λbp _ d=>⟨sU,?_⟩);refine Gp c 7 rfl rfl (λ_=>(Dv Cg rfl)) (eB c 3 _ d (J2 (eO.keep d.kept) hn Bn Tq) (h:=λy _ _ d _=>?_));obtain⟨wv,pv,q⟩:=y;dsimp only at d ⊢;have hPA:oo _ wv pv q p:=Sep.sees d At0;obtain⟨WV,cwv,rfl,_,_⟩:=hPA.1;obtain⟨PV,cpv,rfl,_,_⟩:=hPA.2.1;refine⟨sT,?_⟩;refine Gp c 8 rfl rfl (λ_=>(Gives.build (out:=mo (.slice Y cols.length cy) (.slice WV p.wh.length cwv) (.slice PV q.length cpv) p.group (.slice O (aZ cols p).1.length co) (.iface 73 (av bp)) 0 0 0 .nilFunc) (Fills.one rfl rfl rfl sM rfl (Fills.many rfl rfl (zbe rfl) rfl (Fills.one rfl rfl rfl (zbe rfl) rfl (Fills.one rfl rfl rfl (zbe rfl) rfl Fills.nil)))))) (NK c 9 _ d (cs:=mo (.slice Y cols.length cy) (.slice WV p.wh.length cwv) (.slice PV q.length cpv) p.group (.slice O (aZ cols p).1.length co) (.iface 73 (av bp)) 0 0 0 .nilFunc) rfl rfl (h:=λb _ d=>⟨sT,?_⟩));refine V1 ?_
      first
      | exact au ((Y,cy),(WV,cwv),(PV,cpv),q,bp,b) tR d
      | exact au ((Y,cy),(WV,cwv),(PV,cpv),q,bp,b) tR d.aO.aS.aS.aS
      | exact au ((Y,cy),(WV,cwv),(PV,cpv),q,bp,b) tR d.aS.aO.aS.aS
      | exact au ((Y,cy),(WV,cwv),(PV,cpv),q,bp,b) tR d.aO.aO.aS.aS
      | exact au ((Y,cy),(WV,cwv),(PV,cpv),q,bp,b) tR d.aF.aS.aS.aS
      | exact au ((Y,cy),(WV,cwv),(PV,cpv),q,bp,b) tR d.aF.aO.aS.aS
    refine X7 c 6 [(4,true),(2,false),(0,true)] S (cs:=[.slice none 0 0]) rfl rfl (h:=λbp _ d=>⟨sU,?_⟩);refine Gp c 7 rfl rfl (λ_=>(Dv Cg rfl)) (eB c 1 [(7,true),(4,true),(2,false)] d (Ah (hc.keep d.kept) Pz) (h:=λy _ _ d _=>?_));obtain⟨Y,cy,rfl,_,_⟩:=Sep.bH d At0;refine⟨sU,?_⟩;refine eB c 3 _ d (J2 (eO.keep d.kept) hn Bn Tq) (h:=λy _ _ d _=>?_);obtain⟨wv,pv,q⟩:=y;dsimp only at d ⊢;have hPA:oo _ wv pv q p:=Sep.sees d At0;obtain⟨WV,cwv,rfl,_,_⟩:=hPA.1;obtain⟨PV,cpv,rfl,_,_⟩:=hPA.2.1;refine⟨sT,?_⟩;refine Gp c 8 rfl rfl (λ_=>(Gives.build (out:=mo (.slice Y cols.length cy) (.slice WV p.wh.length cwv) (.slice PV q.length cpv) p.group (.slice O (aZ cols p).1.length co) (.iface 73 (av bp)) 0 0 0 .nilFunc) (Fills.one rfl rfl rfl sM rfl (Fills.many rfl rfl (zbe rfl) rfl (Fills.one rfl rfl rfl (zbe rfl) rfl (Fills.one rfl rfl rfl (zbe rfl) rfl Fills.nil)))))) (NK c 9 _ d (cs:=mo (.slice Y cols.length cy) (.slice WV p.wh.length cwv) (.slice PV q.length cpv) p.group (.slice O (aZ cols p).1.length co) (.iface 73 (av bp)) 0 0 0 .nilFunc) rfl rfl (h:=λb _ d=>⟨sT,?_⟩));refine V1 ?_
    first
    | exact au ((Y,cy),(WV,cwv),(PV,cpv),q,bp,b) tR d
    | exact au ((Y,cy),(WV,cwv),(PV,cpv),q,bp,b) tR d.aO.aS.aS.aS
    | exact au ((Y,cy),(WV,cwv),(PV,cpv),q,bp,b) tR d.aS.aO.aS.aS
    | exact au ((Y,cy),(WV,cwv),(PV,cpv),q,bp,b) tR d.aO.aO.aS.aS
    | exact au ((Y,cy),(WV,cwv),(PV,cpv),q,bp,b) tR d.aF.aS.aS.aS
    | exact au ((Y,cy),(WV,cwv),(PV,cpv),q,bp,b) tR d.aF.aO.aS.aS
  rintro⟨⟨Y,cy⟩,⟨WV,cwv⟩,⟨PV,cpv⟩,q,bp,b⟩ τ d d;dsimp only at d;have d:=dY d At3;have d:=dY d At4;have d:=Sep.mh (Z:=λw=>aJ w (.slice Y cols.length cy) aM 7 cols/\oo w (.slice WV p.wh.length cwv) (.slice PV q.length cpv) q p) d.aO.aS (λw a b=>⟨a,b⟩);have d:=Sep.mh (Z:=λw=>lS w ⟨.slice Y cols.length cy,.slice WV p.wh.length cwv,.slice PV q.length cpv,.slice O (aZ cols p).1.length co,q⟩ cols p (aZ cols p).1/\(((0:Int)=0/\Value.nilFunc=.nilFunc)\/((0:Int)=1/\qb w b .nilFunc p))) d.aS.alV (λw a b=>⟨⟨a.1,a.2,b⟩,.inl ⟨rfl,rfl⟩⟩);refine Lp ?_;refine Cz (λc=>?_) (λc=>?_)
  . have hg: ¬p.group<0:=oM
    refine V7 ?_;refine Vc ((p.cols.length-p.group.toNat:Nat):Int) ?_;have hgn:(p.group.toNat:Int)=p.group:=zcs oM;refine aL (aeP p.group ((p.cols.length-p.group.toNat:Nat):Int)) rfl rfl (λv' _ hv=>?_);obtain⟨⟨bg,bh⟩,rfl,jH,F1,jB,c⟩:=hv.2 ⟨oM,oM,oM,oM⟩;have S:=(d.new jH jB (λb hb=>(c b hb).resolve_left id)).bE;rw[zds]at S;refine Cz (λc=>?_) (λc=>?_)
    . exact zas rfl c
    refine V4 ?_;refine Vb [av bg,I p.group] ?_;refine bB S (cs:=[av bg,I p.group]) rfl (h:=λbk _ _ _=>?_);refine dD (Dv P8 rfl) rfl ?_;refine Uz (λ_ c=>?_);refine V3 ?_;exact⟨λh=>zas dN h,λ_=>⟨b,rfl,by
    have h1:=zm (L:=[]) (Sep.qL (X:=λw=>gK w []) c.aO (λw s hs=>zas hs zam)) (aeT (p.cols.length-p.group.toNat));have h2:=h1.aO.aR.aF;have h4:=yC (T:=[]) hg (ae6 hgn h2);exact(uN (z:=⟨.slice Y cols.length cy,.slice WV p.wh.length cwv,.slice PV q.length cpv,.slice O (aZ cols p).1.length co,q⟩) h4.aO).first.turn⟩⟩
  have hg:p.group<0:=oM;refine V3 ?_;exact⟨λh=>zas dN h,λ_=>⟨b,rfl,by
  have h1:=yB (T:=[]) hg ((Sep.qL (X:=λw=>dS w (.slice none 0 0) (cO []).1) d.aO (λw=>⟨[],qo _ _ _,gN.nil⟩)).aF);exact(uN (z:=⟨.slice Y cols.length cy,.slice WV p.wh.length cwv,.slice PV q.length cpv,.slice O (aZ cols p).1.length co,q⟩) h1.aO).first.turn⟩⟩
variable {cv vr:Value} {r:List aC}
def acJ {b1 bs b:Nat} {cs:LV} {E1 E E2:Td} {sv:Value} {cols:List bT} {l:List bL} (h1:gJ w b1 [av b] E1) (hb:gJ w b (cv::cs) E) (hs:gJ w bs [sv] E2) (hc:aJ w cv aM 7 cols) (hl:aJ w sv aN 3 l) (hr:aJ w vr ah 3 r) (hf:jA r) (hx:bC l) (hT:gT w):
    Rk prog 70 [vr,av b1,av bs] w (.tuple #[agg (ah (mR cols l r).1),I (mR cols l r).2]):=by
  have H:=Sep.aH w;refine AJ func70 ?_;refine Az (λb4 _ _ _=>?_);refine Dz (λk _ S=>?_);refine G0 (Gt rfl (Gives.nu rfl (h1.keep S.kept) rfl) ?_);refine V2 ?_;refine GS (Gt rfl (Gives.nu rfl (hb.keep S.kept) rfl) ?_);refine GS (Gt rfl (Gives.nu rfl (hs.keep S.kept) rfl) ?_);refine V1 ?_;refine dA k 6 _ S (agt (hc.keep S.kept) (hl.keep S.kept) (hr.keep S.kept) hf hx (hT.keep S.kept).utf) (h:=λ_ S _=>⟨sT,?_⟩);refine V2 ?_;refine bM k 9 _ S (us:=ah (mR cols l r).1) (h:=λ_ S=>⟨sT,?_⟩);refine V1 ?_;exact⟨_,bF S,rfl,S.kept⟩
def ahR (vr:Value):Rk prog 72 [vr] w (.tuple #[agg (ah ⟨false,1,[]⟩),I 0]):=by
 have H:=Sep.aH w;refine pE func72 ?_;refine Az (λb2 _ _ _=>?_);refine V1 ?_;refine Vb (ah ⟨false,1,[]⟩) ?_;refine Tz (λ_ k=>?_);refine V1 ?_;exact⟨_,bF k,rfl,k.kept⟩
def RO {b1 b:Nat} {cs:LV} {E1 E:Td} {pf:Value} {cols:List bT} {l:List bL} (Tp:mX w b1 pf l) (h1:gJ w b1 [av b] E1) (hb:gJ w b (cv::cs) E) (hc:aJ w cv aM 7 cols) (hr:aJ w vr ah 3 r) (hf:jA r) (hx:bC l) (hT:gT w):
    ∃(f:FuncId) (us:LV),pf=.func (.func f) #[] us.toArray/\qz prog f/\Rk prog f ([]++[vr]++us) w (.tuple #[agg (ah (rz cols l r).1),I (rz cols l r).2]):=by
  unfold mX at Tp;unfold rz
  by_cases e:l=[]
  . rw[zac e]at Tp |-
    subst Tp;exact⟨_,[],rfl,eT,ahR vr⟩
  rw[zaa e]at Tp ⊢;obtain⟨bs,sv,rfl,hs,hsv⟩:=Tp;exact⟨_,[av b1,av bs],rfl,eT,acJ h1 hb hs hc hsv hr hf hx hT⟩
def N9 {l:List nQ} {o:nQ} (h:(fH cols r l).2=0):fH cols r (l++[o])=if(mR cols o.steps r).2≠0 then([],(mR cols o.steps r).2)else((fH cols r l).1++[(mR cols o.steps r).1],0):=by
 induction l with
 | nil=>
  show(if(mR cols o.steps r).2≠0 then([],(mR cols o.steps r).2)else if(0:Int)≠0 then([],0)else([(mR cols o.steps r).1],0))=_
  split
  .rfl
  rfl
 | cons x l ih=>
  rw[fH]at h;rw[zcb,fH,fH]
  split at h
  .rename_i h1;exact zas h h1
  rename_i h1;rw[zaa h1,zaa h1]
  split at h
  .rename_i h2;exact zas h h2
  rename_i h2;rw[zaa h2,ih (Decidable.of_not_not h2)]
  split
  .rename_i h3;first | rfl | rw[zac h3]
  rename_i h3;rw[zaa (λh=>h rfl)];rfl
def RP {l m:List nQ} (h:(fH cols r l).2≠0):fH cols r (l++m)=([],(fH cols r l).2):=by
 induction l with
 | nil=>exact zas rfl h
 | cons x l ih=>
  rw[fH]at h;rw[zcb,fH,fH]
  split at h
  .rename_i h1;rw[zac h1,zac h1]
  rename_i h1;rw[zaa h1,zaa h1]
  split at h
  .rename_i h2
   rw[zac h2,ih h2,zac h2]
  exact zas rfl h
theorem ahS {b b1 bp b4:Nat} {cs:LV} {E:Td} {pf gv:Value} {gl:LV} {cols:List bT} {p:aW} {r:List aC} {T1 T2 T3:Td} (h1:gJ w b1 [av b] T1) (hbp:gJ w bp [pf] T2) (Tp:mX w b1 pf p.wh) (hb4:gJ w b4 [gv] T3) (hgv:aJ w gv LG 1 gl) (Kt:oV w b1 gl p.cols)
    (hb:gJ w b (cv::cs) E) (hc:aJ w cv aM 7 cols) (hr:aJ w vr ah 3 r) (hf:jA r) (Bl:bC p.wh) (yK: ∀o∈p.cols,bC o.steps) (hn:p.cols.length<=100) (hT:gT w):
    aQ prog 73 [vr,av b1,av bp,av b4] w λu w'=>∃x:Value,u=.tuple #[x,.bool (gM cols p r).2.1,I (gM cols p r).2.2]/\True/\Turn noB (aU 47 3 ah x (gM cols p r).1) w w':=by
  have H:=Sep.aH w;obtain⟨G,cG,rfl,⟨hcG,aww⟩,hG⟩:=hgv;have awx:=Kt.1;obtain⟨fp,us,rfl,Fe,_⟩:=RO Tp h1 hb hc hr hf Bl hT;refine yM func73 ?_;refine V3 ?_;refine dM (h1.keep H.kept) (h:=?_);refine V2 ?_;refine dM (hb.keep H.kept) (h:=?_);refine Mv ?_;refine Kz (FP (hc.keep H.kept) (hr.keep H.kept) hf (hT.keep H.kept).utf) (λ_ k _=>?_);refine Cz (λS=>?_) (λS=>?_)
  . have ak:gM cols p r=([],false,fM cols r):=by unfold gM;rw[zac S]
    refine V4 ?_;exact⟨.slice none 0 0,by rw[ak];rfl,trivial,by rw[ak];exact(Sep.iW k 47 3 ah).turn⟩
  have Zi:=S;refine V0 ?_;refine dM (hbp.keep k.kept) (h:=?_);refine Mv ?_;obtain⟨fp2,us2,VD,atz,qY⟩:=RO (b:=b) (cols:=cols) (mX.keep Tp k.kept) (h1.keep k.kept) (hb.keep k.kept) (hc.keep k.kept) (hr.keep k.kept) hf Bl (hT.keep k.kept);refine eY (he:=atz) (fs:=[]) (cs:=us2) (vals:=[vr]) VD qY rfl rfl (λv' _ hv=>?_);obtain⟨rfl,cK⟩:=hv;have S:=k.keep cK;obtain⟨pc,qy⟩: ∃pc,pc=rz cols p.wh r:=⟨_,rfl⟩;rw[<-qy];refine Az (λb9 _ _ _=>?_);refine Tz (λ_ S=>?_);refine Sz (λk=>?_) (λk=>?_)
  . refine V7 ?_
    have ak:gM cols p r=([],false,pc.2):=by
      unfold gM;rw[zaa Zi,<-qy,zac];exact .inl (by assumption)
    exact⟨.slice none 0 0,by rw[ak];rfl,trivial,by rw[ak];exact(Sep.iW S 47 3 ah).first.turn⟩
  refine V4 ?_;refine dL (t:=35) rfl (λk=>?_) (λk=>?_)
  . refine V5 ?_
    have ak:gM cols p r=([],false,pc.2):=by
      unfold gM;rw[zaa Zi,<-qy,zac];exact .inr (.inl (by assumption))
    exact⟨.slice none 0 0,by rw[ak];rfl,trivial,by rw[ak];exact(Sep.iW S 47 3 ah).first.turn⟩
  refine Cz (λk=>?_) (λk=>?_)
  . refine V4 ?_
    have ak:gM cols p r=([],false,pc.2):=by
      unfold gM;rw[zaa Zi,<-qy,zac];exact .inr (.inr (by assumption))
    exact⟨.slice none 0 0,by rw[ak];rfl,trivial,by rw[ak];exact(Sep.iW S 47 3 ah).first.turn⟩
  refine V0 ?_;have adj: ¬(pc.2≠0\/pc.1.null=true\/pc.1.n=0):=by simp_all
  refine dM (hb4.keep S.kept) (h:=?_);refine V2 ?_;refine aI (λx:(OA×Nat)×Nat=>[(0,vr),(5,.slice x.1.1 (fH cols r (p.cols.take x.2)).1.length x.1.2),(6,.bool false),(7,I pc.2),(41,.slice G gl.length cG),(42,I gl.length),(43,I x.2)]) (λx w'=>(x.2<=gl.length/\(fH cols r (p.cols.take x.2)).2=0/\(fH cols r (p.cols.take x.2)).1.length<=x.2)/\Mw.Sep w noB [aU 47 3 ah (.slice x.1.1 (fH cols r (p.cols.take x.2)).1.length x.1.2) (fH cols r (p.cols.take x.2)).1] w') (λx _=>gl.length-x.2) ((none,0),0) tR ⟨⟨zai _,rfl,zbi _⟩,(Sep.iW S 47 3 ah).first⟩ (λx τ _ hI=>?_);obtain⟨⟨X,cX⟩,i⟩:=x;obtain⟨⟨hi,k,VB⟩,S⟩:=hI;dsimp only at hi k VB S;refine Lp ?_;refine Cz (λa=>?_) (λa=>?_)
  . have aX:i<gl.length:=oM
    obtain⟨g,hg⟩:=get_some aX;obtain⟨o,ho⟩:=get_some (l:=p.cols) (show i<p.cols.length from oM);obtain⟨bs,sv,rfl,hbs,hsv⟩:=Kt.2 i g o hg ho;have yH:p.cols.take (i+1)=p.cols.take i++[o]:=by rw[zat,ho,zcz]
    have hcs:=N9 (o:=o) k;rw[<-yH]at hcs;obtain⟨ev,hev⟩: ∃ev,ev=mR cols o.steps r:=⟨_,rfl⟩;rw[<-hev]at hcs;refine V0 ?_;refine Vv (Gives.fA rfl rfl hG aX) (Vv (Gives.dG (f:=0) rfl (Sep.aH _) (hG.keep S.kept) hg rfl) ?_);refine V3 ?_;refine eY (fs:=[]) (cs:=[av b1,av bs]) (vals:=[vr]) rfl (acJ (b:=b) (cols:=cols) (l:=o.steps) (h1.keep S.kept) (hb.keep S.kept) (hbs.keep S.kept) (hc.keep S.kept) (hsv.keep S.kept) (hr.keep S.kept) hf (yK o (zag ho)) (hT.keep S.kept)) rfl rfl (λv' _ hv=>?_);obtain⟨rfl,cK⟩:=hv;have a:=S.keep cK;rw[<-hev];refine Az (λb12 _ _ _=>?_);refine Tz (λ_ a=>?_);refine Cz (λc=>?_) (λc=>?_)
    . rw[zac c]at hcs
      have Pv:(fH cols r (p.cols.take (i+1))).2≠0:=by rw[hcs];exact c
      have Pt:=RP (m:=p.cols.drop (i+1)) Pv;rw[zbs,hcs]at Pt
      have ak:gM cols p r=([],false,ev.2):=by
        unfold gM;rw[zaa Zi,<-qy,zaa adj,Pt,zac c]
      refine V4 ?_;exact⟨.slice none 0 0,by rw[ak];rfl,trivial,by rw[ak];exact(Sep.iW a 47 3 ah).first.turn⟩
    rw[zaa c]at hcs;refine V1 ?_;refine fQ a (cs:=ah ev.1) (h:=?_);refine Bs a ([ev.1].flatMap ah) (λbq _ c _=>?_);refine dJ c (news:=[ev.1]) At1 (by unfold maxLen;simp only[zaf];omega) (by simp only[zaf];omega) (cells_one (λ_=>rfl) _) (h:=?_);intro v59 c c;rw[show(fH cols r (p.cols.take i)).1++[ev.1]=(fH cols r (p.cols.take (i+1))).1 by rw[hcs]]at c;obtain⟨X2,cX2,rfl,_,_⟩:=Sep.bH c At1;refine V1 ?_;refine Vc ((i+1:Nat):Int) ?_;refine V1 ?_;exact aj ((X2,cX2),i+1) tR ⟨⟨dO,by dsimp only;rw[hcs],by dsimp only;rw[hcs];dsimp only;rw[zad,zaf];omega⟩,c.bI⟩ dO
  have jG:p.cols.take i=p.cols:=zaj oM;rw[jG]at k S
  have ak:gM cols p r=((fH cols r p.cols).1,true,0):=by
    unfold gM;rw[zaa Zi,<-qy,zaa adj,zaa (λh=>h k)]
  refine V4 ?_;exact⟨_,by rw[ak];rfl,trivial,by rw[ak,jG];exact S.turn⟩
variable {l:List aG}
def Ob {x:aG} (h:(bN cols p l).2=0):
    bN cols p (l++[x])=if(gM cols p x.row).2.2≠0 then([],(gM cols p x.row).2.2)else((bN cols p l).1++(if(gM cols p x.row).2.1=true then [⟨(gM cols p x.row).1,x.w⟩]else []),0):=by
  induction l with
  | nil=>
    show(if(gM cols p x.row).2.2≠0 then([],(gM cols p x.row).2.2)else if(0:Int)≠0 then([],0)else if(gM cols p x.row).2.1=true then([⟨(gM cols p x.row).1,x.w⟩],0)else(([]:List aG),0))=_
    split
    . rfl
    rw[zaa dC]
    split<;>rfl
  | cons y l ih=>
    rw[bN]at h;rw[zcb,bN,bN]
    split at h
    . rename_i h1;exact zas h h1
    rename_i h1;rw[zaa h1,zaa h1]
    split at h
    . rename_i h2;exact zas h h2
    rename_i h2;rw[zaa h2,ih (Decidable.of_not_not h2)]
    split
    . rename_i h3;first | rfl | rw[zac h3]
    rename_i h3;rw[zaa (λh=>h rfl)]
    split<;>split<;>rfl
def Oc {l m:List aG} (h:(bN cols p l).2≠0):bN cols p (l++m)=([],(bN cols p l).2):=by
 induction l with
 | nil=>exact zas rfl h
 | cons y l ih=>
  rw[bN]at h;rw[zcb,bN,bN]
  split at h
  .rename_i h1;rw[zac h1,zac h1]
  rename_i h1;rw[zaa h1,zaa h1]
  split at h
  .rename_i h2
   rw[zac h2,ih h2,zac h2]
  split at h<;>exact zas rfl h
structure lF (p:aW) (T:List aG):Prop where
 tell:(d9 p.group p.cols.length T).2=0
 items: ∀o∈T,BI p.cols.length o
 few:T.length<=100
def akA {n:Nat} {o:aG} (h:BI n o):gI o.row:=λc hc=>by
 have:=h.2.2 c hc;unfold EG fits at this;exact⟨this.1,oM⟩
def Yn (b:Nat):vT prog 73 (av b) "millstream/view.put" 384 (av b):=λw=>kR
def Yo (b:Nat):vT prog 96 (av b) "millstream/view.put" 388 (av b):=λw=>kR
def UK (b:Nat):vT prog 73 (av b) "millstream/view.rows" 385 (av b):=λw=>kR
def UL (b:Nat):vT prog 96 (av b) "millstream/view.rows" 389 (av b):=λw=>kR
variable {F:NP}
def EO {p:aW} (H:Mw.Sep w0 S (sP kv p T::rs) w): ∃t b,kv=.iface t (av b):=by
 unfold sP at H
 split at H
 .obtain⟨x,k⟩:=Sep.ex0 H
  obtain⟨h,_⟩:=Sep.ru k.bE;exact⟨_,_,h⟩
 obtain⟨x,k⟩:=Sep.ex0 H;obtain⟨h,_⟩:=Sep.ru k.bE;exact⟨_,_,h⟩
def akB {kv v:Value} {T m:List aG} (hp:(sP kv p T).ok F w) (hm:Av w F v m) (hT: ∀w1,Kept F w w1->gT w1) (Lm:1<=p.cols.length/\p.cols.length<=16/\ -1<=p.group/\p.group<=p.cols.length) (hv:lF p T) (Y9: ∀o∈m,BI p.cols.length o) (Jc:m.length<=100):
    ∃(t:Td) (b:Nat) (f:FuncId),kv=.iface t (av b)/\vT prog t (av b) "millstream/view.put" f (av b)/\qz prog f/\aQ prog f [av b,v] w λu w'=>∃x:Value×List Held,u=.tuple #[x.1,I (jM p.group p.cols.length T m).2]/\x.2.map (·.2)=(jM p.group p.cols.length T m).1/\Turn F (star (dz x.1 x.2) (sP kv p (if(jM p.group p.cols.length T m).2=0 then T++m else T))) w w':=by
  have H:=Sep.bW hp;unfold sP at H
  by_cases hg:p.group<0
  . rw[zac hg]at H
    obtain⟨⟨b,tv⟩,k⟩:=Sep.ex0 H;obtain⟨rfl,S⟩:=Sep.ru k.bE;have hnT:(cO T).2=0:=by have:=hv.tell;unfold d9 at this;rw[zac hg]at this;exact this
    have DT:=ahE (n:=p.cols.length) (m:=m) hg hnT;obtain⟨F0,rC,gQ,aK⟩:=S.focus At0;have Fu: ∀w1,Kept F0 w w1->Kept F w w1:=λw1 h1=>Mw.Kept.into (Kept.refl _ _) gQ h1;refine⟨_,b,_,rfl,Yn b,eT,aQ.mono (X3 rC (λw1 h1=>hm.is w1 (Fu w1 h1)) ?_ oM ?_ (λo ho=>(Y9 o ho).1) ?_ (λo ho=>by rw[(Y9 o ho).2.1];omega)) λu w' hu=>?_⟩
    . exact zck (Gx T) (by have:=hv.few;omega)
    . exact λo ho=>by have h:=zbd ((uW (l:=T)).2.2 o ho);unfold fits;omega
    . exact λo ho=>by obtain⟨q,hq,e⟩:=JO ho;rw[<-e,(hv.items q hq).2.1];omega
    obtain⟨⟨x,kv2⟩,rfl,hx,hk,F1,hq,hs⟩:=hu;rw[DT]at hx hq ⊢;dsimp only at hx hq ⊢;exact⟨x,rfl,hx,((yB hg ((aK _ F1 _ hk hq hs).bE.aF.bE)).aF.aR).turn⟩
  rw[zaa hg]at H;obtain⟨⟨b,bg,bh⟩,k⟩:=Sep.ex0 H;obtain⟨rfl,S⟩:=Sep.ru k.bE;obtain⟨F0,rC,gQ,aK⟩:=S.focus At0;have Fu: ∀w1,Kept F0 w w1->Kept F w w1:=λw1 h1=>Mw.Kept.into (Kept.refl _ _) gQ h1;have hmg:=agY (m:=m) hg hv.tell;have D5:xw (p.cols.length-p.group.toNat) (T.map (fu p.group.toNat))=true:=((jD hg).1 hv.tell).2;have hm0:Av w F0 v m:=by obtain⟨r,hr⟩:=hm;exact⟨r,λw1 h1=>hr w1 (Fu w1 h1)⟩
  refine⟨_,b,_,rfl,Yo b,eT,aQ.mono (P7 rC hm0 (λw1 h1=>hT w1 (Fu w1 h1)) oM oM (λo ho=>⟨(Y9 o ho).1,by rw[(Y9 o ho).2.1];omega,akA (Y9 o ho)⟩) Jc D5) λu w' hu=>?_⟩;obtain⟨x,rfl,hx,hk,F1,hq,hs⟩:=hu;rw[hmg];refine⟨x,rfl,hx,((yC (b:=b) (bg:=bg) (bh:=bh) hg (T:=if(y5 p.group.toNat (p.cols.length-p.group.toNat) (T.map (fu p.group.toNat)) (m.map (fu p.group.toNat))).2=0 then T++m else T) ?_).aF.aR).turn⟩;have h1:=(aK _ F1 _ hk hq hs).bE.aF.bE
  have e:(if(y5 p.group.toNat (p.cols.length-p.group.toNat) (T.map (fu p.group.toNat)) (m.map (fu p.group.toNat))).2=0 then T++m else T).map (fu p.group.toNat)=if(y5 p.group.toNat (p.cols.length-p.group.toNat) (T.map (fu p.group.toNat)) (m.map (fu p.group.toNat))).2=0 then T.map (fu p.group.toNat)++m.map (fu p.group.toNat)else T.map (fu p.group.toNat):=by
    split
    . rw[zak]
    rfl
  rw[e];exact h1
def ahT (hp:(sP kv p T).ok F w) (Lm:1<=p.cols.length/\p.cols.length<=16/\ -1<=p.group/\p.group<=p.cols.length) (hv:lF p T):
    ∃(t:Td) (b:Nat) (f:FuncId),kv=.iface t (av b)/\vT prog t (av b) "millstream/view.rows" f (av b)/\qz prog f/\aQ prog f [av b] w λu w'=>∃x:Value×List Held,u=x.1/\x.2.map (·.2)=(d9 p.group p.cols.length T).1/\Turn F (star (dz x.1 x.2) (sP kv p T)) w w':=by
  have H:=Sep.bW hp;unfold sP at H
  by_cases hg:p.group<0
  . rw[zac hg]at H
    obtain⟨⟨b,tv⟩,k⟩:=Sep.ex0 H;obtain⟨rfl,S⟩:=Sep.ru k.bE;have e:d9 p.group p.cols.length T=cO T:=by unfold d9;rw[zac hg]
    obtain⟨F0,rC,gQ,aK⟩:=S.focus At0;refine⟨_,b,_,rfl,UK b,eT,aQ.mono (UE rC ?_ ?_) λu w' hu=>?_⟩
    . exact zck (Gx T) (by have:=hv.few;omega)
    . exact λo ho=>by obtain⟨q,hq,e⟩:=JO ho;rw[<-e,(hv.items q hq).2.1];omega
    obtain⟨x,rfl,hx,hk,F1,hq,hs⟩:=hu;rw[e];exact⟨x,rfl,hx,((yB hg ((aK _ F1 _ hk hq hs).bE.aF.bE)).aF.aR).turn⟩
  rw[zaa hg]at H;obtain⟨⟨b,bg,bh⟩,k⟩:=Sep.ex0 H;obtain⟨rfl,S⟩:=Sep.ru k.bE;obtain⟨F0,rC,gQ,aK⟩:=S.focus At0;refine⟨_,b,_,rfl,UL b,eT,aQ.mono (N8 rC (by rw[zae];have:=hv.few;omega) (lM ((jD hg).1 hv.tell).1) oM) λu w' hu=>?_⟩;obtain⟨x,rfl,hx,hk,F1,hq,hs⟩:=hu;rw[jm hg hv.tell];exact⟨x,rfl,hx,((yC hg ((aK _ F1 _ hk hq hs).bE.aF.bE)).aF.aR).turn⟩
def Oe {T:List aG} (hp:(jZ b cols p T).ok F w) (dN:(aZ cols p).2=0) (hv:lF p T):
    aQ prog 18 [av b] w λu w'=>∃x:Value×List Held,u=x.1/\x.2.map (·.2)=(d9 p.group p.cols.length T).1/\Turn F (star (dz x.1 x.2) (jZ b cols p T)) w w':=by
  obtain⟨z,kv,fv,o1,H⟩:=EN (Sep.bW hp);obtain⟨t0,b0,rfl⟩:=EO H.aF;refine dh func18 ?_;refine Kz (NU (H.obj At0) (.inr ⟨rfl,t0,_,rfl⟩)) (λ_ k _=>?_);refine Qn (Cd rfl (λS=>?_) (λS=>?_))
  . exact Bool.noConfusion S
  refine V3 ?_;refine dM (k.obj At0) (h:=?_);obtain⟨F0,rC,gQ,aK⟩:=k.focus At1;obtain⟨t,bk,f,hkv,Mx,Fe,qY⟩:=ahT rC (mQ dN) hv;refine YA (he:=Fe) (vals:=[]) hkv Mx qY rfl rfl (λv' _ LZ=>?_);obtain⟨x,rfl,hx,jH,F1,jB,S⟩:=LZ;have k:=aK _ F1 _ jH jB S;refine V1 ?_;exact⟨x,rfl,hx,((uN (k.aF.bE.aS.aO.aS)).aF.aR).turn⟩
theorem J3 (hp:(jZ b cols p T).ok F w) (hl:Av w F v l) (hT: ∀w1,Kept F w w1->gT w1) (dN:(aZ cols p).2=0) (Bl:bC p.wh) (yK: ∀o∈p.cols,bC o.steps) (hv:lF p T) (Fx: ∀x∈l,dR x) (hln:l.length<=100):
    aQ prog 14 [av b,v] w λu w'=>∃x:Value×List Held,u=.tuple #[x.1,I (fq cols p T l).2]/\x.2.map (·.2)=(fq cols p T l).1/\Turn F (star (dz x.1 x.2) (jZ b cols p (iR cols p T l))) w w':=by
  obtain⟨z,kv,fv,o1,H⟩:=EN (Sep.bW hp);obtain⟨t0,b0,atB⟩:=EO H.aF;have Lm:=mQ dN;obtain⟨r,hrr⟩:=hl;obtain⟨⟨A,c,rfl,⟨hc,hc'⟩,_⟩,Ze⟩:=hrr w (Kept.refl _ _);have yL:=Ze.len;refine bU func14 ?_;refine Kz (NU (H.obj At0) (.inr ⟨rfl,t0,_,atB⟩)) (λ_ k _=>?_);refine Qn (Cd rfl (λS=>?_) (λS=>?_))
  . exact Bool.noConfusion S
  refine V4 ?_;refine Vv (Gives.makeFunc (us:=[av b]) (vs:=[]) rfl rfl) ?_;obtain⟨F0,rC,gQ,aK⟩:=((k.aF).aO.aO.aR).focus At0;refine aL (amY rC oM) rfl rfl (λv' _ LZ=>?_);obtain⟨gv,jH,F1,jB,S⟩:=LZ;have k:=(aK _ F1 _ jH jB S).bE;obtain⟨b1,bp,b4,rfl,_⟩:=(Sep.sees k At1).2;have k:=Sep.qM (Y:=λw=>lS w z cols p (aZ cols p).1/\UJ w b b1 bp b4 p) k At1 (λw h=>⟨h.1,ae2 h.2⟩);refine V4 ?_;refine aI (λx:(OA×Nat)×List Held×Nat=>[(0,av b),(6,.slice x.1.1 (aP x.2.1).length x.1.2),(20,.slice A r.length c),(21,I r.length),(22,I x.2.2)]) (λx w'=>(x.2.2<=r.length/\(bN cols p (l.take x.2.2)).2=0/\x.2.1.map (·.2)=(bN cols p (l.take x.2.2)).1)/\Mw.Sep w F [aU 60 2 aA (.slice x.1.1 (aP x.2.1).length x.1.2) (aP x.2.1),lQ x.2.1,blk b (sO z p.group kv 1 0 0 (KY b1 bp b4)) 92,(fP λw=>lS w z cols p (aZ cols p).1/\UJ w b b1 bp b4 p),sP kv p T] w') (λx _=>r.length-x.2.2) ((none,0),[],0) tR ⟨⟨zai _,rfl,rfl⟩,Sep.gy (bJ k) 60 2⟩ (λx τ _ hI=>?_);obtain⟨⟨X,cX⟩,LM,i⟩:=x;obtain⟨⟨hi,hi0,hLM⟩,k⟩:=hI;dsimp only at hi hi0 hLM k
  have atC:LM.length<=i:=by
    have h1:=zay List.length hLM;rw[zae]at h1;have h2:=nJ (cols:=cols) (p:=p) (l.take i);rw[zah]at h2;omega
  have hLr:(aP LM).length=LM.length:=zae _;refine Lp ?_;refine Cz (λa=>?_) (λa=>?_)
  . have aX:i<r.length:=oM
    obtain⟨o,ho⟩:=get_some (l:=l) (show i<l.length from oM);have Mt:=Fx o (zag ho);obtain⟨vo,zJ,DU⟩:=Ze.get ho
    have alE: ∀w1,Kept F w w1->aJ w1 vo ah 3 o.row:=λw1 h1=>by
      obtain⟨vo2,Vy,an3⟩:=(hrr w1 h1).2.get ho;rw[zJ]at Vy;injection Vy with Vy
      injection Vy with e1 e2
      rw[e1];exact an3
    obtain⟨V,cv,rfl,_,_⟩:=DU;have yH:l.take (i+1)=l.take i++[o]:=by rw[zat,ho,zcz]
    have nH:=Ob (x:=o) hi0;rw[<-yH]at nH;obtain⟨md,hmd⟩: ∃md,md=gM cols p o.row:=⟨_,rfl⟩;rw[<-hmd]at nH;refine V0 ?_;refine Vv (Gives.fA rfl rfl (eX (hrr _ k.kept).1) aX) (Vv (Gives.iA rfl (Sep.aH _) (eX (hrr _ k.kept).1) zJ) ?_);refine Az (λb8 _ _ _=>?_);refine Tz (λ_ _=>?_);refine Dz (λa _ d=>?_);refine V6 ?_;obtain⟨pf,gw,gl,g1,⟨gbp,gpf⟩,⟨gb4,ggv⟩,ggl⟩:=(Sep.sees d At4).2;refine j4 a 6 _ (y:=.tmp 30) (fs:=[]) (cs:=[av b1,av bp,av b4]) (vals:=[.slice V o.row.length cv]) rfl (ahS (cols:=cols) (p:=p) (r:=o.row) (b:=b) (E:=92) g1 gbp gpf gb4 ggv ggl (d.obj At3) (Sep.sees d At4).1.1 (alE _ d.kept) Mt.2 Bl yK oM (hT _ d.kept)) (h:=λv' _ LZ=>?_);obtain⟨xv,rfl,_,jH,F1,jB,S⟩:=LZ;have a:=d.new jH jB (λb hb=>(S b hb).resolve_left id);rw[<-hmd]at a ⊢;obtain⟨XR,cR,rfl,_,_⟩:=Sep.bH a At0;refine⟨sT,?_⟩;refine Cz (λd=>?_) (λd=>?_)
    . rw[zac d]at nH
      have jV:(bN cols p (l.take (i+1))).2≠0:=by rw[nH];exact d
      have dK:=Oc (m:=l.drop (i+1)) jV;rw[zbs,nH]at dK;have Qm:fq cols p T l=([],md.2.2):=by unfold fq;rw[dK,zac d]
      have uQ:iR cols p T l=T:=by unfold iR;rw[Qm,zaa d]
      refine V3 ?_;exact⟨(.slice none 0 0,[]),by rw[Qm];rfl,by rw[Qm];rfl,by
      rw[uQ];have h1:=Sep.qM (Y:=λw=>lS w z cols p (aZ cols p).1/\(((1:Int)=0/\KY b1 bp b4=.nilFunc)\/((1:Int)=1/\qb w b (KY b1 bp b4) p))) a At5 (λw h=>⟨h.1,.inr ⟨rfl,_,_,_,rfl,h.2⟩⟩);exact(Sep.gy (bJ (uN (h1.jC.lu.lu)).first) 60 2).aR.aR.turn⟩
    rw[zaa d]at nH;refine O1 ?_;refine Qn (Cd rfl (λd=>?_) (λd=>?_))
    . rw[zac d]at nH
      refine V4 ?_;refine Vb (aA (.slice XR md.1.length cR,o.w)) ?_;refine Bs a ([(Value.slice XR md.1.length cR,o.w)].flatMap aA) (λbq _ e _=>?_);refine dJ e (news:=[(Value.slice XR md.1.length cR,o.w)]) At2 (by unfold maxLen;simp only[zaf];omega) (by simp only[zaf];omega) (λu hu=>zba.1 (show([(Value.slice XR md.1.length cR,o.w)].flatMap aA).all Value.oneCell'=true from rfl) u hu) (h:=?_);intro v47 e e;obtain⟨X2,cX2,rfl,_,_⟩:=Sep.bH e At2
      have CV:aP LM++[(Value.slice XR md.1.length cR,o.w)]=aP (LM++[(Value.slice XR md.1.length cR,⟨md.1,o.w⟩)]):=by
        unfold aP;rw[zak];rfl
      refine V1 ?_;refine Vc ((i+1:Nat):Int) ?_;refine V1 ?_;have h1:=(iF (x:=.slice XR md.1.length cR) (o:=⟨md.1,o.w⟩) (e.aF.bI.aO.aF)).aF;rw[CV]at h1;exact aj ((X2,cX2),LM++[(.slice XR md.1.length cR,⟨md.1,o.w⟩)],i+1) ⟨rfl,by rw[<-CV];rfl,rfl,rfl,rfl,trivial⟩ ⟨⟨dO,by dsimp only;rw[nH],by dsimp only;rw[nH,zak,hLM];rfl⟩,h1⟩ dO
    rw[zaa (by rw[d];decide),zbt]at nH;refine V0 ?_;refine Vc ((i+1:Nat):Int) ?_;refine V1 ?_;exact aj ((X,cX),LM,i+1) tR ⟨⟨dO,by dsimp only;rw[nH],by dsimp only;rw[nH];exact hLM⟩,a.bI.bI⟩ dO
  have jG:l.take i=l:=zaj oM;rw[jG]at hi0 hLM;have Qm:fq cols p T l=jM p.group p.cols.length T (bN cols p l).1:=by unfold fq;rw[zaa (λh=>h hi0)]
  refine V3 ?_;refine dM (k.obj At2) (h:=?_);refine Mv ?_;have Y9: ∀o∈(bN cols p l).1,BI p.cols.length o:=y7 yK Fx;have Jc:(bN cols p l).1.length<=100:=zck (nJ l) hln;have e:=k.aR;obtain⟨F0,rC,gQ,VH,aK⟩:=Sep.BN e At2;have Fu: ∀w1,Kept F0 _ w1->Kept F w w1:=λw1 h1=>Mw.Kept.into e.kept gQ h1
  obtain⟨t,bk,f,hkv,Mx,Fe,qY⟩:=akB (v:=.slice X (aP LM).length cX) (m:=(bN cols p l).1) rC ⟨aP LM,λw1 h1=>by
    obtain⟨Fq,F1,F2,_,_,g1,g2⟩:=VH w1 h1;refine⟨mW g1,?_⟩;have:=vD g2;rw[hLM]at this;exact this⟩ (λw1 h1=>hT w1 (Fu w1 h1)) Lm hv Y9 Jc
  refine YA (he:=Fe) (vals:=[.slice X (aP LM).length cX]) hkv Mx qY rfl rfl (λv' _ LZ=>?_);obtain⟨x,rfl,hx,jH,F1,jB,S⟩:=LZ;have e:=aK _ F1 _ jH jB S;rw[<-Qm]at hx e ⊢;refine V4 ?_;have h1:=Sep.qM (Y:=λw=>lS w z cols p (aZ cols p).1/\(((1:Int)=0/\KY b1 bp b4=.nilFunc)\/((1:Int)=1/\qb w b (KY b1 bp b4) p))) e At2 (λw h=>⟨h.1,.inr ⟨rfl,_,_,_,rfl,h.2⟩⟩);exact⟨x,rfl,hx,((uN (h1.bI.aO.bE.aS.aO.aS)).aF.aR).turn⟩
def holds_nil (p:aW):lF p []:=⟨by rw[agU],λo ho=>zas ho zam,zai _⟩
def oW (hv:lF p T) (yK: ∀o∈p.cols,bC o.steps) (Fx: ∀x∈l,dR x) (hn:T.length+l.length<=100):lF p (iR cols p T l):=by
 refine⟨Xn hv.tell,λo ho=>?_,?_⟩
 .unfold iR at ho
  split at ho
  .rcases zbk.1 ho with ho | ho
   .exact hv.items o ho
   exact y7 yK Fx o ho
  exact hv.items o ho
 unfold iR
 split
 .rw[zad]
  have:=nJ (cols:=cols) (p:=p) l;omega
 omega
def Og (hc:aJ w vc aM 7 cols) (Pz:cols.length<=1000) (hp:fZ w vp p) (Bl:bC p.wh) (yK: ∀o∈p.cols,bC o.steps) (hn:p.cols.length<=100) (Bn:p.wh.length<=1000) (Tq: ∀o∈p.cols,o.steps.length<=1000) (hT:gT w):
    aQ Tryz.prog 7 [vc,vp] w λu w'=>∃pv:Value,u=.tuple #[pv,I (aZ cols p).2]/\Kept noB w w'/\((aZ cols p).2≠0->pv=.pointer none)/\((aZ cols p).2=0->∃b:Nat,pv=av b/\Turn noB (jZ b cols p []) w w'):=
  aQ.mono (akz hc Pz hp Bl yK hn Bn Tq hT) λu w' h=>by
    by_cases e:(aZ cols p).2=0
    . obtain⟨b,rfl,ht⟩:=h.2 e
      exact⟨av b,by rw[e],ht.1,λh=>zas e h,λ_=>⟨b,rfl,ht⟩⟩
    obtain⟨rfl,hk⟩:=h.1 e;exact⟨.pointer none,rfl,hk,λ_=>rfl,λh=>zas h e⟩
def rU {cols:List bT} {p:aW} {l:List aG} (hc:aJ w vc aM 7 cols) (Pz:cols.length<=1000) (hp:fZ w vp p) (hl:dS w v l) (Bl:bC p.wh) (yK: ∀o∈p.cols,bC o.steps) (hn:p.cols.length<=100) (Bn:p.wh.length<=1000) (Tq: ∀o∈p.cols,o.steps.length<=1000) (Fx: ∀x∈l,dR x) (hln:l.length<=100) (hT:gT w):
    aQ Tryz.prog 38 [vc,vp,v] w λu w'=>∃x:Value×List Held,u=.tuple #[x.1,I (uD cols p l).2]/\x.2.map (·.2)=(uD cols p l).1/\Turn noB (dz x.1 x.2) w w':=by
  have eO:=hp;obtain⟨vw,vq,rfl,hw,r,hr,eP⟩:=hp;obtain⟨W,cw,rfl,_,_⟩:=id hw;obtain⟨A,m,rfl,_,_⟩:=id hr;obtain⟨q,hq,hqr⟩:=hl;have H:=Sep.aH w;refine D9 Tryz.func38 ?_;refine Sr (bB H (cs:=[.slice W p.wh.length cw,.slice A r.length m,I p.group]) rfl (h:=λb4 _ k _=>?_));refine V3 ?_;refine fQ k (cs:=[.slice W p.wh.length cw,.slice A r.length m,I p.group]) (h:=?_);refine aL (Og (hc.keep k.kept) Pz (eO.keep k.kept) Bl yK hn Bn Tq (hT.keep k.kept)) rfl rfl (λv' S hv=>?_);obtain⟨pv,rfl,cK,_,hb⟩:=hv
  have atD:(aZ cols p).2=0->∃b:Nat,pv=av b/\Mw.Sep w noB (jZ b cols p []::_) S:=λh=>by
    obtain⟨b,rfl,jH,F1,jB,S⟩:=hb h;exact⟨b,rfl,k.new jH jB (λb hb=>(S b hb).resolve_left id)⟩
  have a:=k.keep cK;refine Cz (λk=>?_) (λk=>?_)
  . have c:=k
    have hd:uD cols p l=([],(aZ cols p).2):=by unfold uD;rw[zac c]
    refine V3 ?_;exact⟨(.slice none 0 0,[]),by rw[hd];rfl,by rw[hd];rfl,(Sep.gy (bJ a) 60 2).aR.first.turn⟩
  have dN:(aZ cols p).2=0:=Decidable.of_not_not k;obtain⟨b,rfl,c⟩:=atD dN;refine V2 ?_;obtain⟨F0,rC,gQ,aK⟩:=c.focus At0;have Fu: ∀k,Kept F0 _ k->Kept noB w k:=λk h1=>Mw.Kept.into c.kept gQ h1;refine aL (J3 rC ⟨q,λk h1=>⟨hq.keep (Fu k h1),hqr.keep (Fu k h1)⟩⟩ (λk h1=>hT.keep (Fu k h1)) dN Bl yK (holds_nil p) Fx hln) rfl rfl (λv' _ hv=>?_);obtain⟨x,rfl,hx,jH,F1,jB,S⟩:=hv;have k:=aK _ F1 _ jH jB S;refine Cz (λS=>?_) (λS=>?_)
  . have c:=S
    have hd:uD cols p l=([],(fq cols p [] l).2):=by unfold uD;rw[zaa (λh=>h dN),zac c]
    refine V3 ?_;exact⟨(.slice none 0 0,[]),by rw[hd];rfl,by rw[hd];rfl,(Sep.gy (bJ k) 60 2).aR.first.turn⟩
  have ha0:(fq cols p [] l).2=0:=Decidable.of_not_not S;have hd:uD cols p l=((d9 p.group p.cols.length (iR cols p [] l)).1,0):=by unfold uD;rw[zaa (λh=>h dN),zaa (λh=>h ha0)]
  refine V1 ?_;have c:=k.bE;obtain⟨F2,an5,hS2,ajr⟩:=c.focus At1;refine aL (Oe an5 dN (oW (holds_nil p) yK Fx (by simpa using hln))) rfl rfl (λv' _ hv=>?_);obtain⟨y,rfl,hy,hk2,F3,qD,k⟩:=hv;have c:=ajr _ F3 _ hk2 qD k;refine V2 ?_;exact⟨y,by rw[hd];rfl,by rw[hd];exact hy,c.aF.bE.first.turn⟩
def tL (cv wv pv:Value) (g:Int) (ov iv:Value):LV:=[cv,wv,pv,I g,ov,iv]
theorem ahU {E:Td} {wv pv ov iv:Value} {q:List (L8×Value)} (hb:gJ w b (tL cv wv pv p.group ov iv) E) (hc:aJ w cv aM 7 cols) (hP:oo w wv pv q p) (hr:aJ w vr ah 3 r) (hf:jA r) (Bl:bC p.wh) (yK: ∀o∈p.cols,bC o.steps) (hn:p.cols.length<=100):
    aQ Tryz.prog 75 [av b,vr] w λu w'=>∃x:Value,u=.tuple #[x,.bool (gM cols p r).2.1,I (gM cols p r).2.2]/\True/\Turn noB (aU 47 3 ah x (gM cols p r).1) w w':=by
  have H:=Sep.aH w;obtain⟨hw,hq,eP⟩:=hP;obtain⟨W,cw,rfl,_,_⟩:=id hw;obtain⟨A,c,rfl,⟨hcA,aqm⟩,hA⟩:=hq;have yL:=eP.len;refine bU Tryz.func75 ?_;refine V6 ?_;refine dM (hb.keep H.kept) (h:=?_);refine Mv ?_;refine Kz (OU (hc.keep H.kept) (hr.keep H.kept)) (λ_ k _=>?_);refine Cz (λS=>?_) (λS=>?_)
  . have ak:gM cols p r=([],false,fM cols r):=by unfold gM;rw[zac S]
    refine V4 ?_;exact⟨.slice none 0 0,by rw[ak];rfl,trivial,by rw[ak];exact(Sep.iW k 47 3 ah).turn⟩
  have Zi:=S;refine Sk (dB (λ_:Unit=>[(0,av b),(1,vr)]) (λ_ w'=>(¬((rz cols p.wh r).2≠0\/(rz cols p.wh r).1.null=true\/(rz cols p.wh r).1.n=0))/\Mw.Sep w noB [] w') ?_ ?_)
  . refine V4 ?_
    refine dM (hb.keep k.kept) (h:=?_);refine Cz (λS=>?_) (λS=>?_)
    . have hwn: ¬p.wh=[]:=λe=>by have h:=S;rw[e]at h;simp at h
      have hpa:rz cols p.wh r=mR cols p.wh r:=by unfold rz;rw[zaa hwn]
      obtain⟨pc,qy⟩: ∃pc,pc=rz cols p.wh r:=⟨_,rfl⟩;rw[<-qy]at hpa;refine dB (λx:Nat=>[(0,av b),(1,vr),(4,.slice none 0 0),(5,.bool false),(6,I 0),(8,av x),(9,I pc.2)]) (λx w'=>Mw.Sep w noB [blk x (ah pc.1) 47] w') ?_ ?_
      . refine Dz (λS _ a=>?_)
        refine V3 ?_;refine GS (Gt rfl (Gives.nu rfl (hb.keep a.kept) rfl) ?_);refine V4 ?_;refine GS (Gt rfl (Gives.nu rfl (hb.keep a.kept) rfl) ?_);refine V1 ?_;refine jQ S (e1:=10) (e2:=14) kR ?_ ?_
        . refine OY S 10 _ a (Df (hc.keep a.kept) (hw.keep a.kept) (hr.keep a.kept) hf Bl) (h:=λ_ d _=>?_)
          rw[<-hpa];refine⟨sT,?_⟩;refine V3 ?_;refine r9 S 14 _ d (h:=λb8 _ d=>⟨sT,?_⟩);refine bM S 15 _ d (h:=λ_ d=>⟨sT,?_⟩);refine V1 ?_;exact au _ tR d
        refine jE S 14 [(9,true),(8,false),(7,true),(6,true),(5,true),(4,true),(3,false),(2,true),(1,true),(0,true)] a (h:=λb8 _ d=>⟨ay ((bQ rfl kR (Gives.nu rfl (hb.keep d.kept) rfl) rfl (ay (ay (ay (ay ((bQ rfl kR (Gives.nu rfl (hb.keep d.kept) rfl) rfl (ay (ay (ay (eF)))))))))))),?_⟩);refine dA S 10 _ d (Df (hc.keep d.kept) (hw.keep d.kept) (hr.keep d.kept) hf Bl) (h:=λ_ d _=>?_);rw[<-hpa];refine⟨sT,?_⟩;refine V3 ?_;refine bM S 15 _ d (h:=λ_ d=>⟨sT,?_⟩);refine V1 ?_;exact au _ tR d
      rintro b8 τ d d;refine Lp ?_;refine Cz (λS=>?_) (λS=>?_)
      . refine V4 ?_
        have ak:gM cols p r=([],false,pc.2):=by
          unfold gM;rw[zaa Zi,<-qy,zac (.inl (by assumption))]
        exact⟨.slice none 0 0,by rw[ak];rfl,trivial,by rw[ak];exact(Sep.iW d 47 3 ah).first.turn⟩
      refine V3 ?_;refine dL (t:=49) rfl (λS=>?_) (λS=>?_)
      . refine V4 ?_
        have eO:pc.2=0:=Decidable.of_not_not (by assumption)
        have ak:gM cols p r=([],false,0):=by
          unfold gM;rw[zaa Zi,<-qy,zac (by simp_all),eO]
        exact⟨.slice none 0 0,by rw[ak];rfl,trivial,by rw[ak];exact(Sep.iW d 47 3 ah).first.turn⟩
      refine Cz (λS=>?_) (λS=>?_)
      . refine V3 ?_
        have eO:pc.2=0:=Decidable.of_not_not (by assumption)
        have ak:gM cols p r=([],false,0):=by
          unfold gM;rw[zaa Zi,<-qy,zac (by simp_all),eO]
        exact⟨.slice none 0 0,by rw[ak];rfl,trivial,by rw[ak];exact(Sep.iW d 47 3 ah).first.turn⟩
      refine V0 ?_;exact au () tR ⟨by rw[<-qy];simp_all,d.bI⟩
    have hwn:p.wh=[]:=zbg oM;have adj: ¬((rz cols p.wh r).2≠0\/(rz cols p.wh r).1.null=true\/(rz cols p.wh r).1.n=0):=by unfold rz;rw[zac hwn];decide
    refine V0 ?_;exact au () tR ⟨adj,k⟩
  rintro _ τ S ⟨ajs,S⟩;refine Lp ?_;refine V2 ?_;refine aI (λx:(OA×Nat)×Nat=>[(0,av b),(1,vr),(10,.slice x.1.1 (fH cols r (p.cols.take x.2)).1.length x.1.2),(11,I x.2)]) (λx w'=>(x.2<=q.length/\(fH cols r (p.cols.take x.2)).2=0/\(fH cols r (p.cols.take x.2)).1.length<=x.2)/\Mw.Sep w noB [aU 47 3 ah (.slice x.1.1 (fH cols r (p.cols.take x.2)).1.length x.1.2) (fH cols r (p.cols.take x.2)).1] w') (λx _=>q.length-x.2) ((none,0),0) tR ⟨⟨zai _,rfl,zbi _⟩,(Sep.iW S 47 3 ah).first⟩ (λx τ _ hI=>?_);obtain⟨⟨X,cX⟩,i⟩:=x;obtain⟨⟨hi,S,VB⟩,d⟩:=hI;dsimp only at hi S VB d;refine Lp ?_;refine V5 ?_;refine dM (hb.keep d.kept) (h:=?_);refine Cz (λk=>?_) (λk=>?_)
  . have aX:i<p.cols.length:=oM
    obtain⟨vx,hx,CS⟩:=eP.at aX;have hpo:p.cols[i]? =some p.cols[i]:=zab aX;obtain⟨o,ho⟩: ∃o,o=p.cols[i]:=⟨_,rfl⟩;rw[<-ho]at hx CS hpo;have yH:p.cols.take (i+1)=p.cols.take i++[o]:=by rw[zat,hpo,zcz]
    have hcs:=N9 (o:=o) S;rw[<-yH]at hcs;obtain⟨ev,hev⟩: ∃ev,ev=mR cols o.steps r:=⟨_,rfl⟩;rw[<-hev]at hcs;refine Sk (Bo (uS (dB (λx:Nat=>[(0,av b),(1,vr),(10,.slice X (fH cols r (p.cols.take i)).1.length cX),(11,I i),(12,av x),(13,I ev.2)]) (λx w'=>Mw.Sep w noB [blk x (ah ev.1) 47,aU 47 3 ah (.slice X (fH cols r (p.cols.take i)).1.length cX) (fH cols r (p.cols.take i)).1] w') ?_ ?_)))
    . refine Dz (λk _ a=>?_)
      refine V3 ?_;refine GS (Gt rfl (Gives.nu rfl (hb.keep a.kept) rfl) ?_);refine V4 ?_;refine GS (Gt rfl (Gives.nu rfl (hb.keep a.kept) rfl) ?_);refine V1 ?_;refine GS (Gn rfl (λ_=>Gives.fA rfl rfl hA oM) ?_);refine V1 ?_;refine GS (Gt rfl (Gives.dG (f:=1) rfl (Sep.aH _) (hA.keep a.kept) hx rfl) ?_);refine V1 ?_;refine jQ k (e1:=14) (e2:=18) kR ?_ ?_
      . refine OY k 14 _ a (Df (hc.keep a.kept) (CS.keep a.kept) (hr.keep a.kept) hf (yK o (zag hpo))) (h:=λ_ g _=>?_)
        rw[<-hev];refine⟨sT,?_⟩;refine V3 ?_;refine r9 k 18 _ g (h:=λb12 _ g=>⟨sT,?_⟩);refine bM k 19 _ g (h:=λ_ g=>⟨sT,?_⟩);refine V1 ?_;exact au _ tR g
      refine jE k 18 [(13,true),(12,false),(11,true),(10,true),(9,true),(8,false),(7,true),(6,true),(5,true),(4,true),(3,false),(2,true),(1,true),(0,true)] a (h:=λb12 _ g=>⟨ay ((bQ rfl kR (Gives.dG (f:=1) rfl (Sep.aH _) (hA.keep g.kept) hx rfl) rfl (ay (ay (ay ((bQ rfl kR (Gives.nu rfl (hb.keep g.kept) rfl) rfl (ay (ay (ay (ay ((bQ rfl kR (Gives.nu rfl (hb.keep g.kept) rfl) rfl (ay (ay (ay (eF))))))))))))))))),?_⟩);refine dA k 14 _ g (Df (hc.keep g.kept) (CS.keep g.kept) (hr.keep g.kept) hf (yK o (zag hpo))) (h:=λ_ g _=>?_);rw[<-hev];refine⟨sT,?_⟩;refine V3 ?_;refine bM k 19 _ g (h:=λ_ g=>⟨sT,?_⟩);refine V1 ?_;exact au _ tR g
    rintro b12 τ g g;refine Lp ?_;refine Cz (λk=>?_) (λk=>?_)
    . rw[zac k]at hcs
      have a:=k;have Pv:(fH cols r (p.cols.take (i+1))).2≠0:=by rw[hcs];exact a
      have Pt:=RP (m:=p.cols.drop (i+1)) Pv;rw[zbs,hcs]at Pt
      have ak:gM cols p r=([],false,ev.2):=by
        unfold gM;rw[zaa Zi,zaa ajs,Pt,zac a]
      refine V4 ?_;exact⟨.slice none 0 0,by rw[ak];rfl,trivial,by rw[ak];exact(Sep.iW g 47 3 ah).first.turn⟩
    rw[zaa k]at hcs;refine V1 ?_;refine fQ g (cs:=ah ev.1) (h:=?_);refine Bs g ([ev.1].flatMap ah) (λbq _ a _=>?_);refine dJ a (news:=[ev.1]) At1 (by unfold maxLen;simp only[zaf];omega) (by simp only[zaf];omega) (cells_one (λ_=>rfl) _) (h:=?_);intro v88 a a;rw[show(fH cols r (p.cols.take i)).1++[ev.1]=(fH cols r (p.cols.take (i+1))).1 by rw[hcs]]at a;obtain⟨X2,cX2,rfl,_,_⟩:=Sep.bH a At1;refine V2 ?_;refine Vc ((i+1:Nat):Int) ?_;refine V1 ?_;exact aj ((X2,cX2),i+1) tR ⟨⟨dO,by dsimp only;rw[hcs],by dsimp only;rw[hcs];dsimp only;rw[zad,zaf];omega⟩,a.bI⟩ dO
  have jG:p.cols.take i=p.cols:=zaj oM;rw[jG]at S d
  have ak:gM cols p r=((fH cols r p.cols).1,true,0):=by
    unfold gM;rw[zaa Zi,zaa ajs,zaa (λh=>h S)]
  refine V4 ?_;exact⟨_,by rw[ak];rfl,trivial,by rw[ak,jG];exact d.turn⟩
end Go.Proofs.Mw
