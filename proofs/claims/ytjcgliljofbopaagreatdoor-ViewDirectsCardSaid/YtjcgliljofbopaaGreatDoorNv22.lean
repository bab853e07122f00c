/-
 One run of rows in order,summed up;walked.
-/
import Derived.Test.YtjcgliljofbopaaGreatDoorNv21
set_option linter.all false
set_option maxRecDepth 4000
namespace Go.Proofs.Mw
variable {w:Wd} {A:OA} {ps:List Nat} {bytes c i:Nat} {P:Program} {ρ:Od->Value} {x:Od} {l:List aH} {o:aH} {v:Value}
open Go.Lib Go.Proofs.Tryz
section
attribute [local irreducible] FW FL FG FGn jK jO fI lU Qfn Gives
def adM (A:OA) (c:Nat):Nat->OA
 | 0=>A
 | i+1=>if c-i=1 then adM A c i else(adM A c i).map (·.add 1)
def ZK (h:Mw.Rd w A FN 1 ps) (hc:ps.length<=c): ∀i,i<=ps.length->Mw.Rd w (adM A c i) FN 1 (ps.drop i)
 | 0,_=>by rw[zdd];exact h
 | i+1,hi=>by
  have h1:=TK (c:=c-i) (j:=1) (ZK h hc i oM) (by rw[zbo];omega) (by rw[zbo];omega);rw[zfx,Nat.one_mul]at h1;exact h1
def eO {α:Type} {c m k:Nat} {enc:α->LV} {l:List α} (h:aJ w (.slice A m c) enc k l):Mw.Rd w A enc k l:=by
 obtain⟨A',c',e,_,hr⟩:=h;injection e with e1 e2 e3
 subst e1;exact hr
def psV (A:OA) (c n i:Nat):Value:=.slice (adM A c i) (n-i) (c-i)
def Gives.apZ {ty:Td} {y:Od} {t e:Td} [ht:cO P t e] [hc:Cells P e 1 bytes] {n:Nat} (hx:ρ x=psV A c n i) (hy:ρ y=I 1) (hi:i<n):Gives P ρ (.slice t x (some y) none none) ty w (psV A c n (i+1)) w:=by
 have h:=Gives.sliceFrom (P:=P) (ρ:=ρ) (ty:=ty) (w:=w) (t:=t) (e:=e) (x:=x) (y:=y) (l:=1) hx hy oM;exact h
def Gives.alR {ty:Td} {w0:Wd} {y:Od} {t e:Td} [ht:cO P t e] [hc:Cells P e 1 bytes] {j:Nat} (hx:ρ x=psV A c ps.length j) (hy:ρ y=I 0) (hr:Mw.Rd w0 A FN 1 ps) (hcap:ps.length<=c) (hj:j<ps.length):Gives P ρ (.indexAddr t x y) ty w (adr (adM A c j) 0) w:=by
 have h0:=ZK hr hcap j oM;have hl:(ps.drop j).length=ps.length-j:=zbo;exact Gives.fF (i:=0) (by rw[hl];exact hx) hy h0 oM
def Gives.agC {ty:Td} {T:Td} [OneCell P T] {j p:Nat} (hx:ρ x=adr (adM A c j) 0) (hr:Mw.Rd w A FN 1 ps) (hcap:ps.length<=c) (hj:ps[j]? =some p):Gives P ρ (.load T x) ty w (I p) w:=by
 have h0:=ZK hr hcap j (by have:=fO hj;omega);exact Gives.dz (i:=0) (f:=0) hx (Sep.aF w) h0 (by rw[zci];exact hj) rfl
def agD {l:List aH} (hf: ∀o∈l,fits o.w) (r:List aC): -((l.length:Int)*9223372036854775808)<=wtL l r/\wtL l r<=(l.length:Int)*9223372036854775808:=by
 induction l with
 | nil=>exact⟨Int.le_refl _,Int.le_refl _⟩
 | cons x l ih=>
  obtain⟨h1,h2⟩:=ih λo ho=>hf o (zat _ ho);obtain⟨h3,h4⟩:=hf x zao;rw[wtL,zas]
  split<;>omega
def ajl {r:List aC} (h:l[i]? =some o) (he:o.row=r):wtL (l.take (i+1)) r=wtL (l.take i) r+o.w:=by
 rw[zay,h,ji];show _+((if o.row=r then o.w else 0)+0)=_
 rw[zac he,zgf]
def ap0 (y:Value) (s:Int):Value:=.tuple #[agg (aA (y,if aW s=true then s else 0)),I (if aW s=true then 0 else 50)]
section
variable {w:Wd} {F:NP}
theorem agE {b0 b4 b1:Nat} {E0 E4 E1:Td} {A:OA} {c j p0:Nat} {ps:List Nat} {V:Value} {r:List (Value×Int)} {l q:List aH} {x:aH}
    (hp:(star (blk b0 [psV A c ps.length j] E0) (star (blk b4 [V] E4) (blk b1 [V] E1))).ok F w) (hS: ∀w1,Kept F w w1->Mw.Rd w1 A FN 1 ps) (hc:ps.length<=c)
    (hV: ∀w1,Kept F w w1->aJ w1 V aA 2 r) (eF: ∀w1,Kept F w w1->gL w1 r l) (hj:ps[j]? =some p0) (hx:l[p0]? =some x) (hq: ∀(i p:Nat),ps[i]? =some p->p<l.length/\l[p]? =q[i]?) (YC:q.length=ps.length)
    (hn:ps.length<=1000) (hl:l.length<=1000) (hf: ∀o∈q,fits o.w) (oP:x.row.length<=1000):
    aR Tryz.prog 322 [ay b0,ay b4,ay b1] w λu w'=>∃z:Value×Nat,u=ap0 z.1 (wtL ((q.drop j).take z.2) x.row)/\(0<z.2/\j+z.2<=ps.length/\(∀o∈(q.drop j).take z.2,o.row=x.row)/\∀o,(q.drop j)[z.2]? =some o->o.row≠x.row)/\
      Turn F (star (aY 41 3 ah z.1 x.row) (star (blk b0 [psV A c ps.length (j+z.2)] E0) (star (blk b4 [V] E4) (blk b1 [V] E1)))) w w':=by
  have H:=((Sep.bR hp).bL).aG.bL;have RN:=fO hj;obtain⟨Py,hpq⟩:=hq j p0 hj;have hqx:q[j]? =some x:=by rw[<-hpq];exact hx
  have hxq:(q.drop j)[0]? =some x:=by rw[zci];exact hqx
  have hdl:(q.drop j).length=ps.length-j:=by rw[zbo,YC]
  have hfd: ∀o∈q.drop j,fits o.w:=λo ho=>hf o (zed ho);obtain⟨B,m,hVe,⟨hBm,om⟩,_⟩:=hV w (Kept.refl _ _);subst hVe;obtain⟨vx,hvx,Ci⟩:=(eF w (Kept.refl _ _)).get hx;have zi:=(eF w (Kept.refl _ _)).len;obtain⟨E6,hE6⟩: ∃E6,E6=371:=⟨_,rfl⟩;refine zX Tryz.func322 ?_;refine Az (λb3 w2 H2 k1=>?_);refine Zb2 ?_;refine Vv (Gives.alR rfl rfl (hS _ H2.kept) hc RN) (Vv (Gives.agC rfl (hS _ H2.kept) hc hj) ?_);refine Az (λb6 w9 H9 k8=>?_);refine Zb0 ?_;refine aI (λi:Nat=>[(0,ay b0),(1,ay b4),(2,ay b1),(3,ay b3),(4,I 0),(5,I p0),(6,ay b6)]) (λi w'=>(j+i<=ps.length/\∀o∈(q.drop j).take i,o.row=x.row)/\Sep w F [blk b6 (bW (wtL ((q.drop j).take i) x.row)) 371,blk b3 (aA (.slice none 0 0,0)) 39,blk b4 [.slice B r.length m] E4,blk b1 [.slice B r.length m] E1,blk b0 [psV A c ps.length (j+i)] E0] w') (λi _=>ps.length-i) 0 tR ⟨⟨oM,λo ho=>by simp at ho⟩,H9⟩ (λi τ wa hI=>?_);obtain⟨⟨hi,jE⟩,Ha⟩:=hI;have hS1:=hS _ Ha.kept;refine Lp ?_;refine Dz (λSa wb Hb=>?_);refine Zb2 ?_;refine GS (Gn rfl (λ_=>(Gives.gtr (k:=.i64) rfl rfl)) ?_);refine Zb1 ?_;refine fM (t:=15) rfl (λSb=>?_) (λSb=>?_)
  . have aS:j+i<ps.length:=oM
    obtain⟨p1,hp1⟩:=get_some aS;obtain⟨arG,arH⟩:=hq (j+i) p1 hp1;obtain⟨o1,ho1⟩:=get_some arG;have OG:(q.drop j)[i]? =some o1:=by rw[zci,<-arH];exact ho1
    obtain⟨vo,zh,Dp⟩:=(eF w (Kept.refl _ _)).get ho1;refine vB Sa 4 Hb (h:=?_);refine Zb2 ?_;refine GS (Gn rfl (λ_=>(Gives.alR rfl rfl (hS _ Hb.kept) hc aS)) ?_);refine GS (Gt rfl (Gives.agC rfl (hS _ Hb.kept) hc hp1) ?_);refine dB Sa 9 _ Hb (Na (hV _ Hb.kept) (eF _ Hb.kept) hx ho1) (h:=λwc Hc ka=>⟨sT,?_⟩);refine Za2 ?_;refine fK Sa kR ?_;refine Cz (λIe=>?_) (λIe=>?_)
    . have ak1:o1.row=x.row:=by
        have h0:=(fP.eq0 x.row o1.row).1 oM;exact h0.symm
      have arI:=ajl OG ak1
      have aoT: ∀o∈(q.drop j).take (i+1),o.row=x.row:=by
        intro o ho;rw[zay,OG]at ho
        rcases zbk.1 ho with h | h
        . exact jE o h
        rw[zcw,zau]at h;rw[h];exact ak1
      refine Dz (λSc wd Hd=>?_);refine Zb3 ?_;refine GS (Gn rfl (λ_=>(Gives.alR rfl rfl (hS _ Hd.kept) hc aS)) ?_);refine GS (Gt rfl (Gives.agC rfl (hS _ Hd.kept) hc hp1) ?_);refine GS (Gn rfl (λ_=>(Gives.fF rfl rfl (eO (hV _ Hd.kept)) (fO zh))) ?_);refine Zb1 ?_;refine GS (Gt rfl (Gives.dz (f:=1) rfl (Sep.aF _) (eO (hV _ Hd.kept)) zh rfl) ?_);refine dB Sc 8 [(0,false)] Hd (TB o1.w (hfd o1 (zag OG))) (h:=λwe He kb=>⟨sU,?_⟩);refine dB Sc 9 _ He (TD (wtL ((q.drop j).take i) x.row) o1.w) (h:=λwf Hf kc=>⟨sT,?_⟩);refine bN Sc 10 _ Hf (h:=λwg Hg=>⟨sT,?_⟩);refine Zb1 ?_;refine Vv (Gives.apZ rfl rfl aS) (Uz (λwh Hh=>?_));refine Zb0 ?_;exact aj (i+1) tR ⟨⟨oM,aoT⟩,by rw[arI];exact Hh⟩ oM
    refine Zb1 ?_
    have qU:0<i/\∀o,(q.drop j)[i]? =some o->o.row≠x.row:=by
      first
      | exact⟨oM,λo ho=>by have:=fO ho;omega⟩
      | (have iN:jC x.row o1.row≠0:=oM
         refine⟨Nat.pos_of_ne_zero λh=>iN ?_,λo ho e=>iN ?_⟩
         . subst h;rw[hxq]at OG;injection OG with e;rw[<-e];exact fP.self _
         rw[OG]at ho;injection ho with ho;rw[ho,e];exact fP.self _)
    have hb:=agD (l:=(q.drop j).take i) (λo ho=>hfd o (zcg ho)) x.row;have AJ:((q.drop j).take i).length<=1000:=by rw[zah];omega
    refine Kz (TF (wtL ((q.drop j).take i) x.row) oM oM) (λwi Hi kd=>?_);refine Zb7 ?_;refine Vv (Gives.fF rfl rfl (eO (hV _ Hi.kept)) (fO hvx)) (Zb1 ?_);refine Vv (Gives.dz (f:=0) rfl (Sep.aF _) (eO (hV _ Hi.kept)) hvx rfl) (F6 Hi (qg ((eF _ Hi.kept).2 p0 _ _ hvx hx) oP) (h:=?_));intro y wj _ Hj ke;obtain⟨Ay,cy,rfl,_,_⟩:=Sep.bJ Hj At0;refine Mv ?_;refine Vb (aA (.slice Ay x.row.length cy,_)) ?_;refine Mv ?_;refine Tz (λwk Hk=>?_);refine Zb1 ?_;exact⟨_,bE Hk,(_,i),rfl,⟨qU.1,hi,jE,qU.2⟩,(Hk.jY.jY.jY.aQ.aG.aQ.aG.aQ).first.turn⟩
  refine Zb2 ?_
  have qU:0<i/\∀o,(q.drop j)[i]? =some o->o.row≠x.row:=by
    first
    | exact⟨oM,λo ho=>by have:=fO ho;omega⟩
    | (have iN:jC x.row o1.row≠0:=oM
       refine⟨Nat.pos_of_ne_zero λh=>iN ?_,λo ho e=>iN ?_⟩
       . subst h;rw[hxq]at OG;injection OG with e;rw[<-e];exact fP.self _
       rw[OG]at ho;injection ho with ho;rw[ho,e];exact fP.self _)
  have hb:=agD (l:=(q.drop j).take i) (λo ho=>hfd o (zcg ho)) x.row;have AJ:((q.drop j).take i).length<=1000:=by rw[zah];omega
  refine Kz (TF (wtL ((q.drop j).take i) x.row) oM oM) (λwl Hl kf=>?_);refine Zb7 ?_;refine Vv (Gives.fF rfl rfl (eO (hV _ Hl.kept)) (fO hvx)) (Zb1 ?_);refine Vv (Gives.dz (f:=0) rfl (Sep.aF _) (eO (hV _ Hl.kept)) hvx rfl) (F6 Hl (qg ((eF _ Hl.kept).2 p0 _ _ hvx hx) oP) (h:=?_));intro y wm _ Hm kg;obtain⟨Ay,cy,rfl,_,_⟩:=Sep.bJ Hm At0;refine Mv ?_;refine Vb (aA (.slice Ay x.row.length cy,_)) ?_;refine Mv ?_;refine Tz (λwn Hn=>?_);refine Zb1 ?_;exact⟨_,bE Hn,(_,i),rfl,⟨qU.1,hi,jE,qU.2⟩,(Hn.jY.jY.jY.aQ.aG.aQ.aG.aQ).first.turn⟩
end
def ajm (hp:ps.Perm (List.range l.length)) (hs:ps.Pairwise λi j=>∀a b,l[i]? =some a->l[j]? =some b->jC a.row b.row<=0):
    ∃q:List aH,q.length=ps.length/\(∀(i p:Nat),ps[i]? =some p->p<l.length/\l[p]? =q[i]?)/\q.Perm l/\Cq q:=by
  have aS: ∀p∈ps,p<l.length:=λp h=>zem.1 (hp.mem_iff.1 h);refine⟨ps.map λp=>l[p]?.getD ⟨[],0⟩,zaf _,λi p h=>⟨aS p (zag h),?_⟩,?_,?_⟩
  . have h1:=aS p (zag h)
    rw[zbz,h,zdu,zaa h1];rfl
  . have h2:=hp.map λp=>l[p]?.getD ⟨[],0⟩
    have e:((List.range l.length).map λp=>l[p]?.getD ⟨[],0⟩)=l:=by
      refine List.ext_getElem sM λi h1 h2=>?_;simp[zaa h2]
    rw[e]at h2;exact h2
  unfold Cq;rw[List.pairwise_map];refine hs.imp_of_mem λ{a b} ha hb h=>h _ _ ?_ ?_
  . rw[zaa (aS a ha)];rfl
  rw[zaa (aS b hb)];rfl
section
variable {w:Wd}
theorem FP (hl:dI w v l) (hn:l.length<=1000) (hf: ∀o∈l,fits o.w) (oP: ∀o∈l,o.row.length<=1000):
    aR Tryz.prog 318 [v] w λu w'=>∃x:Value×List Held,u=.tuple #[x.1,I (dh l).2]/\x.2.map (·.2)=(dh l).1/\Turn noB (dV x.1 x.2) w w':=by
  have Gx:=hl;obtain⟨r,hr,eF⟩:=hl;have hr0:=hr;obtain⟨B,m,rfl,⟨hm,om⟩,hA⟩:=hr;have zi:=eF.len;have H:=Sep.aF w;refine cK Tryz.func318 ?_;refine Sr (bB H (cs:=[.slice B r.length m]) rfl (h:=λb1 _ _ _=>?_));refine Az (λb4 _ _ _=>?_);refine Uz (λ_ k=>?_);refine Nz (adL (l:=l) (Gx.keep k.kept) hn) (λy _ hy k _=>?_);obtain⟨S,ps⟩:=y;obtain⟨aij,ak2⟩:=hy;dsimp only at k aij ak2 ⊢;obtain⟨A,c,rfl,hc,_⟩:=Sep.bJ k At0;have k:=dU k At0;obtain⟨q,YC,hq,hqp,hqs⟩:=ajm aij ak2;have Py:ps.length=l.length:=by rw[aij.length_eq,zea]
  have hqf: ∀o∈q,fits o.w:=λo ho=>hf o (hqp.mem_iff.1 ho);refine Az (λb5 _ _ _=>?_);refine Uz (λ_ k=>?_);refine Zb2 ?_;have OQ:=(Sep.fT (bD k) 39 2).jY.jY.gG.jY;refine aI (λx:(OA×Nat)×List Held×Nat=>[(1,ay b1),(2,.slice x.1.1 (aO x.2.1).length x.1.2),(4,ay b4),(5,ay b5),(6,.func (.func 322) #[] #[ay b5,ay b4,ay b1])]) (λx w'=>(vX l (x.2.1.map (·.2)) (q.drop x.2.2)/\x.2.2<=ps.length/\x.2.1.length<=x.2.2)/\Mw.Sep w noB [FB (.slice A ps.length c) FN 1 ps,blk b5 [psV A c ps.length x.2.2] 214,blk b4 [.slice B r.length m] 368,blk b1 [.slice B r.length m] 27,aY 39 2 aA (.slice x.1.1 (aO x.2.1).length x.1.2) (aO x.2.1),vJ 41 3 ah (·.1) (λb:Held=>b.2.row) x.2.1] w') (λx _=>ps.length-x.2.2) ((none,0),[],0) tR ⟨⟨vX.start hqp hqs,zak _,zbj _⟩,OQ⟩ (λx τ _ hI=>?_);obtain⟨⟨R,cR⟩,L,j⟩:=x;obtain⟨⟨hNI,hjn,hLj⟩,k⟩:=hI;dsimp only at hNI hjn hLj k;refine Lp ?_;refine Cz (λa=>?_) (λa=>?_)
  . have aS:j<ps.length:=oM
    obtain⟨p0,eD⟩:=get_some aS;obtain⟨arK,arL⟩:=hq j p0 eD;obtain⟨x,hx⟩:=get_some arK;have hqx:(q.drop j)[0]? =some x:=by rw[zci,zfb,<-arL];exact hx
    refine Zb1 ?_;have a:=k.aX.aX.aQ.aN.aQ.aG;obtain⟨F0,vN,gV,hX0,aK⟩:=Sep.alQ a At0;refine eP (fs:=[]) (cs:=[ay b5,ay b4,ay b1]) (vals:=[]) rfl (agE (A:=A) (c:=c) (j:=j) (ps:=ps) (V:=.slice B r.length m) (r:=r) (l:=l) (q:=q) (x:=x) vN (λd h1=>eO (hX0 d h1).1) hc (λd h1=>hr0.keep (hX0 d h1).2) (λd h1=>eF.keep (hX0 d h1).2) eD hx hq YC oM hn hqf (oP x (zag hx))) rfl rfl (λv' _ hv=>?_);obtain⟨⟨y,i⟩,rfl,⟨hi0,hi1,jE,UK⟩,arM,F1,lq,d⟩:=hv;have a:=(aK _ F1 _ arM lq d).aG.bL.aG.bL.aG.bL;dsimp only at hi0 hi1 jE UK a;obtain⟨Ay,cy,rfl,_,_⟩:=Sep.bJ a At3;refine Az (λb7 _ _ _=>?_);refine Tz (λ_ d=>?_);refine Cz (λa=>?_) (λa=>?_)
    . have KF: ¬aW (wtL ((q.drop j).take i) x.row)=true:=λh=>a (by rw[zac h])
      have jN:=hNI.bad hqx UK KF;refine Zb3 ?_;exact⟨(.slice none 0 0,[]),by rw[jN];exact zaw (λz=>Value.tuple #[Value.slice none 0 0,I z]) (zab KF),by rw[jN];rfl,(Sep.fT (bD d) 39 2).aQ.first.turn⟩
    have KF:aW (wtL ((q.drop j).take i) x.row)=true:=Decidable.of_not_not λh=>by
      have h1:=a;rw[zab h]at h1;exact h1 dC
    have sI:=hNI.step hqx jE UK KF;rw[zfx]at sI;rw[zac KF]at d;refine Cz (λa=>?_) (λa=>?_)
    . rw[zac a]at sI
      refine Zb2 ?_;refine Bs d ([(Value.slice Ay x.row.length cy,wtL ((q.drop j).take i) x.row)].flatMap aA) (λbs _ e _=>?_);have hLr:(aO L).length=L.length:=zaf _;refine dG e (news:=[(Value.slice Ay x.row.length cy,wtL ((q.drop j).take i) x.row)]) At6 (by unfold maxLen;simp;omega) (by simp;omega) (λu hu=>zaz.1 (show([(Value.slice Ay x.row.length cy,wtL ((q.drop j).take i) x.row)].flatMap aA).all Value.oneCell'=true from rfl) u hu) (h:=?_);intro v9 e e;obtain⟨R2,cR2,rfl,_,_⟩:=Sep.bJ e At6;have Aj:=iR (x:=.slice Ay x.row.length cy) (o:=⟨x.row,wtL ((q.drop j).take i) x.row⟩) (e.bH.jZ.gG)
      have Cj:aO L++[(Value.slice Ay x.row.length cy,wtL ((q.drop j).take i) x.row)]=aO (L++[(Value.slice Ay x.row.length cy,(⟨x.row,wtL ((q.drop j).take i) x.row⟩:aH))]):=by
        unfold aO;rw[zai];rfl
      have Dn:vX l ((L++[(Value.slice Ay x.row.length cy,(⟨x.row,wtL ((q.drop j).take i) x.row⟩:aH))]).map (·.2)) (q.drop (j+i)):=by rw[zai];exact sI
      have aik:(L++[(Value.slice Ay x.row.length cy,(⟨x.row,wtL ((q.drop j).take i) x.row⟩:aH))]).length=L.length+1:=by rw[zad];rfl
      rw[Cj]at Aj ⊢;clear Cj
      generalize L++[(Value.slice Ay x.row.length cy,(⟨x.row,wtL ((q.drop j).take i) x.row⟩:aH))]=L2 at Aj Dn aik |-
      refine Zb1 ?_;exact aj ((R2,cR2),L2,j+i) tR ⟨⟨Dn,hi1,dO⟩,Aj.jY.aX.aX.gG.jY⟩ dO
    rw[zab a]at sI;refine Zb0 ?_;exact aj ((R,cR),L,j+i) tR ⟨⟨sI,hi1,dO⟩,d.bH.aX.bH.aN.aX⟩ dO
  have qU:j=ps.length:=oM;have l9:q.drop j=[]:=zbv oM;rw[l9]at hNI;refine Zb3 ?_;exact⟨(_,L),by rw[hNI.done];rfl,by rw[hNI.done],k.gG.jY.aG.aQ.first.turn⟩
end
def okN (l:List aH) (i:Nat):Prop:=(∀(k:Nat) x,k<i->l[k]? =some x->x.w≠0)/\∀(k:Nat) x y,k+1<i->l[k]? =some x->l[k+1]? =some y->jC x.row y.row<0
def WW (l:List aH):okN l 0:=⟨λ_ _ h=>zar h (zdv _),λ_ _ _ h=>zar h (zdv _)⟩
def FQ (h:okN l i) (ho:l[i]? =some o) (h0:o.w≠0) (h1:i=0\/∃p,l[i-1]? =some p/\jC p.row o.row<0):okN l (i+1):=by
 refine⟨λk x hk hx=>?_,λk x y hk hx hy=>?_⟩
 .by_cases e:k=i
  .subst e;rw[ho]at hx;injection hx with hx;rw[<-hx];exact h0
  exact h.1 k x oM hx
 by_cases e:k+1=i
 .rcases h1 with h1 | ⟨p,hp,aS⟩
  .omega
  rw[e,ho]at hy;injection hy with hy
  rw[<-e,zgd,hx]at hp;injection hp with hp
  rw[<-hy,hp];exact aS
 exact h.2 k x y oM hx hy
def abB (h:okN l i) (hi:l.length<=i):iw l=true:=
 yt.2 ⟨λx hx=>by
  obtain⟨k,hk,e⟩:=zfk hx;exact h.1 k x oM (by rw[zaa hk,e]),λk x y hx hy=>h.2 k x y (by have:=fO hy;omega) hx hy⟩
section
variable {w:Wd}
def QN (hl:dI w v l) (hn:l.length<=1000):Rk Tryz.prog 328 [v] w (I (if iw l=true then 0 else 2)):=by
 obtain⟨r,hr,eF⟩:=hl;have hr0:=hr;obtain⟨A,m,rfl,⟨hm,om⟩,hA⟩:=hr;have zi:=eF.len;have H:=Sep.aF w;refine cK Tryz.func328 ?_;refine Zb4 ?_;refine aI (λi:Nat=>[(0,.slice A r.length m),(5,.slice A r.length m),(6,I r.length),(7,I i)]) (λi w'=>(i<=r.length/\okN l i)/\Mw.Sep w noB [] w') (λi _=>r.length-i) 0 tR ⟨⟨zak _,WW l⟩,H⟩ (λi τ _ hI=>?_);obtain⟨⟨hi,eZ⟩,k⟩:=hI;refine Lp ?_;refine Cz (λS=>?_) (λS=>?_)
 .have aS:i<r.length:=oM
  have EM:i<l.length:=oM;obtain⟨o,ho⟩:=get_some EM;obtain⟨vo,zh,Dp⟩:=eF.get ho;obtain⟨Ao,co,rfl,_,_⟩:=Dp;refine Az (λb4 _ _ _=>?_);refine Am ?_;refine Tz (λ_ S=>?_);refine Sz (λa=>?_) (λa=>?_)
  .refine Zb2 ?_
   have hb: ¬iw l=true:=λh=>by
    have h2:=yt.1 h
    first
    | exact h2.1 o (zag ho) oM
    | (have h3:=h2.2 (i-1) p o Gr (by rw[zge oM];exact ho);omega)
   exact⟨by rw[zab hb];rfl,S.kept⟩
  refine Sz (λa=>?_) (λa=>?_)
  .refine Zb2 ?_
   obtain⟨p,Gr⟩:=get_some (l:=l) (show i-1<l.length from oM);refine Vc ((i-1:Nat):Int) ?_;refine Kz (Na (hr0.keep S.kept) (eF.keep S.kept) Gr ho) (λ_ a _=>?_);refine Cz (λb=>?_) (λb=>?_)
   .refine Zb1 ?_
    have hb: ¬iw l=true:=λh=>by
     have h2:=yt.1 h
     first
     | exact h2.1 o (zag ho) oM
     | (have h3:=h2.2 (i-1) p o Gr (by rw[zge oM];exact ho);omega)
    exact⟨by rw[zab hb];rfl,a.kept⟩
   refine Zb0 ?_;refine Vc ((i+1:Nat):Int) ?_;refine Zb1 ?_;exact aj (i+1) tR ⟨⟨oM,FQ eZ ho oM (by first | exact .inl oM | exact .inr ⟨p,Gr,oM⟩)⟩,a.bH⟩ oM
  refine Zb2 ?_;refine Vc ((i+1:Nat):Int) ?_;refine Zb1 ?_;exact aj (i+1) tR ⟨⟨oM,FQ eZ ho oM (by first | exact .inl oM | exact .inr ⟨p,Gr,oM⟩)⟩,S.bH⟩ oM
 have qU:l.length<=i:=oM;refine Zb1 ?_;exact⟨by rw[zac (abB eZ qU)];rfl,k.kept⟩
def um {a b:List aC} {va vb:Value} (ha:aJ w va ah 3 a) (hb:aJ w vb ah 3 b):Rk prog 19 [va,vb] w (.bool (decide (a=b))):=by
  obtain⟨A,m,rfl,⟨hm,om⟩,hA⟩:=ha;obtain⟨B,m2,rfl,⟨Dn,auY⟩,hB⟩:=hb;have H:=Sep.aF w;refine bQ func19 ?_;refine Cz (λYz=>?_) (λYz=>?_)
  . have iN: ¬a=b:=λe=>Yz (by rw[e])
    refine Zb1 ?_;exact⟨by rw[zal iN];rfl,H.kept⟩
  have hlen:a.length=b.length:=oM;refine Zb1 ?_;refine aI (λi:Nat=>[(0,.slice A a.length m),(1,.slice B b.length m2),(5,I i)]) (λi w'=>(i<=a.length/\a.take i=b.take i)/\Sep w noB [] w') (λi _=>a.length-i) 0 tR ⟨⟨zak _,rfl⟩,H⟩ (λi τ wa hI=>?_);obtain⟨⟨hi,heq⟩,Ha⟩:=hI;refine Lp ?_;refine Cz (λIe=>?_) (λIe=>?_)
  . have aS:i<a.length:=oM
    have KW:i<b.length:=oM;obtain⟨x,hx⟩:=get_some aS;obtain⟨y,hy⟩:=get_some KW;refine Dz (λSa wb Hb=>?_);refine Zb2 ?_;refine GS (Gn rfl (λ_=>Gives.fF rfl rfl hA aS) ?_);refine GS (Gt rfl (Gives.iH rfl Hb hA hx) ?_);refine Zb2 ?_;refine GS (Gn rfl (λ_=>Gives.fF rfl rfl hB KW) ?_);refine GS (Gt rfl (Gives.iH rfl Hb hB hy) ?_);refine GS (Gn rfl (λ_=>Gives.alY (enc:=ah) x y rfl rfl) ?_);refine fK Sa kR ?_;refine Cz (λIf=>?_) (λIf=>?_)
    . have iN: ¬a=b:=λe=>by
        subst e;rw[hx]at hy;injection hy with hy
        exact If hy
      refine Zb1 ?_;exact⟨by rw[zal iN];rfl,Hb.kept⟩
    have hxy:x=y:=Decidable.of_not_not If;have UK:a.take (i+1)=b.take (i+1):=by rw[zay,zay,hx,hy,heq,hxy]
    refine Zb1 ?_;refine Vc ((i+1:Nat):Int) ?_;refine Zb1 ?_;exact aj (i+1) tR ⟨⟨oM,UK⟩,Hb⟩ oM
  have Oy:a=b:=by
    have h1:=heq;rw[zaj oM,zaj oM]at h1;exact h1
  refine Zb1 ?_;exact⟨by rw[zap Oy];rfl,Ha.kept⟩
def mF {l:List aC} (hl:aJ w v ah 3 l) (oP:l.length<=1000):aR prog 63 [v] w λv' w'=>∃x,v'=x/\True/\Turn noB (aY 41 3 ah x l) w w':=by
 obtain⟨A,m,rfl,⟨hm,om⟩,hA⟩:=hl;have H:=Sep.aF w;refine cK func63 ?_;refine Zb4 ?_;have k:=Sep.iW H 41 3 ah;refine mU k At0 (hA.keep H.kept) (by unfold maxLen;simp;omega) (by simp;omega) (cells_one (λ_=>rfl) _) (h:=?_);intro v2 S k;refine Zb1 ?_;exact⟨_,rfl,trivial,by rw[zbu]at k;exact k.turn⟩
end
end
open Go.RowKit
variable {P:Program} {ρ:Od->Value} {ty:Td} {w:Wd}
def Gives.yL {T e m size:Nat} [ht:zl P T m e] [hc:Cells P e size bytes] {z:Value} [hz:Zero P T z] {zs:LV} {parts:List (Nat×Od)} {out:LV} (D5:z.cells=zs.toArray) (h:Fills (λi:Nat=>some (i*size,size)) ρ parts zs out):Gives P ρ (.build T parts.toArray) ty w (.agg out.toArray) w:=λ_ _ _ _=>by
 obtain⟨i,hi,qx⟩:=zbc.1 hc.size;simp only[Prod.mk.injEq]at qx;have hf:=FY h;simp only[execOp,Instr.build,zbi,hz.run,zam,run_underlying ht.und,D5,zcc,sizeOf,typeInfo,run_program,hi,zbl,qx.1,hf]
section
attribute [local irreducible] FW FL FG FGn jK jO fI lU Qfn Gives
def pwL (l:List aH) (r:List aC):List (Int×Int):=(l.filter λx=>decide (x.row=r)).map λx=>(x.w,1)
def agF (r:List aC): ∀l:List aH,rE (pwL l r)=wtL l r
 | []=>rfl
 | x::l=>by
  have ih:=agF r l;unfold pwL at ih ⊢;rw[wtL,zee]
  by_cases h:x.row=r
  .rw[zac (zap h),zac h,zav,rE,ih];show x.w*1+_=_;omega
  rw[zab (by simpa using h),zab h,ih];omega
def ajn {r:List aC} (h:l[i]? =some o):pwL (l.take (i+1)) r=pwL (l.take i) r++(if o.row=r then [(o.w,1)]else []):=by
 unfold pwL;rw[zay,h,zfr,zai]
 congr 1
 by_cases h2:o.row=r
 .rw[zac h2];simp[h2]
 rw[zab h2];simp[h2]
def agG (l:List aH) (r:List aC):(pwL l r).length<=l.length:=by
 unfold pwL;rw[zaf];exact zfs _ _
def sP (f:Int) (l:List aH):List aH×Int:=if iw l=true then(if(l.all λx=>aW (f*x.w))=true then((l.map λx=>(⟨x.row,f*x.w⟩:aH)).filter λx=>decide (x.w≠0),0)else([],50))else([],2)
section
variable {w:Wd}
def QO {vr:Value} {r:List aC} (hl:dI w v l) (hr:aJ w vr ah 3 r) (hn:l.length<=1000) (hf: ∀o∈l,fits o.w):
    Rk Tryz.prog 68 [v,vr] w (.tuple #[I (if aW (wtL l r)=true then wtL l r else 0),I (if aW (wtL l r)=true then 0 else 50)]):=by
  obtain⟨z,hz,eF⟩:=hl;obtain⟨A,m,rfl,⟨hm,om⟩,hA⟩:=hz;have hzl:=eF.len;have H:=Sep.aF w;refine bQ Tryz.func68 ?_;refine Zb4 ?_;refine aI (λx:(OA×Nat)×Nat=>[(0,.slice A z.length m),(1,vr),(6,.slice x.1.1 (pwL (l.take x.2) r).length x.1.2),(7,I x.2)]) (λx w'=>x.2<=z.length/\Sep w noB [aY 195 2 lW (.slice x.1.1 (pwL (l.take x.2) r).length x.1.2) (pwL (l.take x.2) r)] w') (λx _=>z.length-x.2) ((none,0),0) tR ⟨zak _,Sep.iW H 195 2 lW⟩ (λx τ _ hI=>?_);obtain⟨⟨R,cR⟩,i⟩:=x;obtain⟨hi,k⟩:=hI;dsimp only at hi k;refine Lp ?_;refine Cz (λS=>?_) (λS=>?_)
  . have aS:i<z.length:=oM
    obtain⟨o,ho⟩:=get_some (l:=l) (show i<l.length from oM);obtain⟨vo,zh,Dp⟩:=eF.get ho;have nu:=ajn (r:=r) ho;have Py:=agG (l.take i) r;rw[zah]at Py;refine Kz (um (Dp.keep k.kept) (hr.keep k.kept)) (λ_ S _=>?_);refine Cz (λa=>?_) (λa=>?_)
    . rw[zac a]at nu
      refine Zb6 ?_;refine Vv (Gives.yL (zs:=[I 0,I 0]) (out:=lW (o.w,1)) rfl (Fills.one rfl rfl rfl sM rfl (Fills.one rfl rfl rfl sM rfl Fills.nil))) (Bs S ([(o.w,(1:Int))].flatMap lW) (λbs _ b _=>?_));refine dG b (news:=[(o.w,(1:Int))]) At0 (by unfold maxLen;simp only[zae];omega) (by simp only[zae];omega) (cells_one (λ_=>rfl) _) (h:=?_);intro v6 b b;rw[<-nu]at b;obtain⟨R2,cR2,rfl,_,_⟩:=Sep.bJ b At0;refine Zb2 ?_;refine Vc ((i+1:Nat):Int) ?_;refine Zb1 ?_;exact aj ((R2,cR2),i+1) tR ⟨dO,b⟩ dO
    rw[zab a,zbw]at nu;refine Zb1 ?_;refine Vc ((i+1:Nat):Int) ?_;refine Zb1 ?_;exact aj ((R,cR),i+1) ⟨rfl,rfl,by dsimp only;rw[nu];rfl,rfl,trivial⟩ ⟨dO,by dsimp only;rw[nu];exact S⟩ dO
  have jF:l.take i=l:=zaj oM;refine Zb1 ?_;have OQ:=jG k At0
  have RG: ∀x∈pwL (l.take i) r,fits x.1/\fits x.2:=λx hx=>by
    obtain⟨o,ho,rfl⟩:=zaq.1 hx;exact⟨hf o (zcg (zcf.1 ho).1),by show -9223372036854775808<=(1:Int)/\(1:Int)<=9223372036854775807;decide⟩
  have hpn:=agG (l.take i) r;rw[zah]at hpn;refine Kz (Jh OQ RG oM) (λ_ b _=>?_);rw[agF,jF];refine Zb4 ?_;exact⟨rfl,b.kept⟩
def Jk (hl:dI w v l) (hn:l.length<=1000):Rk Tryz.prog 70 [v] w (I (if iw l=true then 0 else 2)):=by
 obtain⟨r,hr,eF⟩:=hl;obtain⟨A,m,rfl,⟨hm,om⟩,hA⟩:=hr;have zi:=eF.len;have H:=Sep.aF w;refine cK Tryz.func70 ?_;refine Zb2 ?_;refine aI (λi:Nat=>[(0,.slice A r.length m),(3,I i)]) (λi w'=>(i<=r.length/\okN l i)/\Mw.Sep w noB [] w') (λi _=>r.length-i) 0 tR ⟨⟨zak _,WW l⟩,H⟩ (λi τ _ hI=>?_);obtain⟨⟨hi,eZ⟩,k⟩:=hI;refine Lp ?_;refine Cz (λS=>?_) (λS=>?_)
 .have aS:i<r.length:=oM
  have EM:i<l.length:=oM;obtain⟨o,ho⟩:=get_some EM;obtain⟨vo,zh,Dp⟩:=eF.get ho;refine Dz (λS _ a=>?_);refine Zb2 ?_;refine GS (Gn rfl (λ_=>Gives.fF rfl rfl hA aS) ?_);refine Zb1 ?_;refine GS (Gt rfl (Gives.dz (f:=1) rfl a hA zh rfl) ?_);refine Zb2 ?_;refine fM (t:=16) rfl (λb=>?_) (λb=>?_)
  .refine Zb2 ?_
   have hb: ¬iw l=true:=λh=>by
    have h2:=yt.1 h
    first
    | exact h2.1 o (zag ho) oM
    | (have h3:=h2.2 (i-1) p o Gr (by rw[zge oM];exact ho);omega)
   exact⟨by rw[zab hb];rfl,a.kept⟩
  refine Zb3 ?_;refine fM (t:=19) rfl (λb=>?_) (λb=>?_)
  .obtain⟨p,Gr⟩:=get_some (l:=l) (show i-1<l.length from oM)
   obtain⟨vp,hvp,D7⟩:=eF.get Gr;refine Gm S 10 ?_;refine Zb1 ?_;refine Gc S 12 ((i-1:Nat):Int) ?_;refine GS (Gn rfl (λ_=>Gives.fF (i:=i-1) rfl rfl hA oM) ?_);refine Zb1 ?_;refine GS (Gt rfl (Gives.dz (f:=0) rfl a hA hvp rfl) ?_);refine Zb2 ?_;refine GS (Gn rfl (λ_=>Gives.fF rfl rfl hA aS) ?_);refine Zb1 ?_;refine GS (Gt rfl (Gives.dz (f:=0) rfl a hA zh rfl) ?_);refine dB S 21 _ a (Ki (D7.keep a.kept) (Dp.keep a.kept)) (h:=λ_ b _=>⟨sT,?_⟩);refine Za3 ?_;refine fK S kR ?_;refine Cz (λS=>?_) (λS=>?_)
   .refine Zb1 ?_
    have hb: ¬iw l=true:=λh=>by
     have h2:=yt.1 h
     first
     | exact h2.1 o (zag ho) oM
     | (have h3:=h2.2 (i-1) p o Gr (by rw[zge oM];exact ho);omega)
    exact⟨by rw[zab hb];rfl,b.kept⟩
   refine Zb1 ?_;refine Vc ((i+1:Nat):Int) ?_;refine Zb1 ?_;exact aj (i+1) tR ⟨⟨oM,FQ eZ ho oM (by first | exact .inl oM | exact .inr ⟨p,Gr,oM⟩)⟩,b⟩ oM
  refine Zb3 ?_;refine Vc ((i+1:Nat):Int) ?_;refine Zb1 ?_;exact aj (i+1) tR ⟨⟨oM,FQ eZ ho oM (by first | exact .inl oM | exact .inr ⟨p,Gr,oM⟩)⟩,a⟩ oM
 have qU:l.length<=i:=oM;refine Zb1 ?_;exact⟨by rw[zac (abB eZ qU)];rfl,k.kept⟩
end
end
def Gives.WX {t e:Td} [h:cO P t e] {m c:Nat} (hx:ρ x=.slice A m c):Gives P ρ (.call {callee:=.builtin .cap,args:= #[x],argTypes:= #[t]}) ty w (.int .i64 c) w:=λ_ _ _ _=>by
 simp[execOp,resolve,invoke,builtin,hx,Builtin.cap_,run_underlying h.und,goInt]
section
attribute [local irreducible] FW FL FG FGn jK jO fI lU Qfn Gives
def TN {m:List aH} {a b:aH} (h:l.take i=m.take i) (ha:l[i]? =some a) (hb:m[i]? =some b):(l.take (i+1)=m.take (i+1))↔a=b:=by
 rw[zay,zay,ha,hb,h];simp
def La {a b:aH}:(a.w=b.w/\a.row=b.row)↔a=b:=⟨λh=>aH.ext' h.2 h.1,λh=>by rw[h];exact⟨rfl,rfl⟩⟩
instance:DecidableEq aH:=λa b=>decidable_of_iff (a.w=b.w/\a.row=b.row) La
abbrev TP:=OA×Nat×List (Value×Int)
def ap1 (x:TP):Value:=.slice x.1 x.2.2.length x.2.1
def ajo (x:TP):LV:=[ap1 x]
instance:je ajo 1:=⟨λ_=>rfl⟩
def QS {l:List TP} {x:TP} (h:l[i]? =some x):(l.take (i+1)).flatMap (·.2.2)=(l.take i).flatMap (·.2.2)++x.2.2:=by
 rw[zay,h,zbt];simp
def abC {l:List TP} (i:Nat):((l.take i).flatMap (·.2.2)).length<=(l.flatMap (·.2.2)).length:=by
 conv=>rhs;rw[<-zbs i l,zbt,zad]
 omega
def rM {r:List (Value×Int)} {l:List aH} (h:gL w r l): ∀u∈r.flatMap aA,u.oneCell'=true:=by
 intro u hu;obtain⟨x,hx,hu⟩:=zca.1 hu;obtain⟨i,hi,e⟩:=zfk hx;have hl:=h.len;obtain⟨A,c,hA,_,_⟩:=h.2 i x l[i] (by rw[zaa hi,e]) (zaa oM);have hu:u=x.1\/u=I x.2:=by simpa[aA]using hu
 rcases hu with e | e
 .rw[e,hA];rfl
 rw[e];rfl
section
variable {w:Wd}
def agH (n:Nat) (hn:n<=100000):aR Tryz.prog 335 [.slice none 0 0,I n] w λu w'=>∃x:Value,u=x/\True/\Turn noB (aY 39 2 aA x []) w w':=by
 have H:=Sep.aF w;refine bQ Tryz.func335 ?_;refine Cz (λk=>?_) (λk=>?_)
 .omega
 refine Zb2 ?_;refine Vv (Gives.WX rfl) (Zb2 ?_);refine Vc 0 ?_;refine Vc (n:Int) ?_;refine Cz (λk=>?_) (λk=>?_)
 .refine Zb2 ?_
  refine Vv (Gives.WX rfl) (Vv (Gives.sliceTo (h:=0) rfl rfl oM) ?_);refine Mv ?_;refine ajS H (m:=n) rfl rfl oM (h63:=by unfold maxLen;omega) (hbytes:=by omega) (h:=?_);intro g c k hgc hcm k;refine Zb2 ?_;refine Vv (Gives.sliceTo (h:=0) rfl rfl oM) (Zb3 ?_);exact⟨_,rfl,trivial,k.first.turn⟩
 refine Zb2 ?_;exact⟨_,rfl,trivial,(Sep.fT H 39 2).first.turn⟩
end
def adN (f:Int) (l:List aH):List aH:=(l.map λx=>(⟨x.row,f*x.w⟩:aH)).filter λx=>decide (x.w≠0)
def agI {f:Int} (h:l[i]? =some o):adN f (l.take (i+1))=adN f (l.take i)++(if f*o.w≠0 then [⟨o.row,f*o.w⟩]else []):=by
 unfold adN;rw[zay,h,zai,zfr]
 congr 1
 by_cases h2:f*o.w≠0
 .rw[zac h2];simp[h2]
 rw[zab h2];simp[h2]
def adO {f:Int} (hc:iw l=true) (h:l[i]? =some o) (hb: ¬aW (f*o.w)=true):sP f l=([],50):=by
 unfold sP;rw[zac hc,zab λha=>hb (zaz.1 ha o (zag h))]
def ZL {f:Int} (hc:iw l=true) (h: ∀(j:Nat) o,l[j]? =some o->aW (f*o.w)=true):sP f l=(adN f l,0):=by
 unfold sP
 rw[zac hc,zac (zaz.2 λo ho=>by
  obtain⟨j,hj,e⟩:=zfk ho;exact h j o (by rw[zaa hj,e]))]
 rfl
section
variable {w:Wd}
theorem agJ (f:Int) (hff:fits f) (hl:dI w v l) (hn:l.length<=1000) (hf: ∀o∈l,fits o.w) (oP: ∀o∈l,o.row.length<=1000):
    aR prog 69 [I f,v] w λu w'=>∃x:Value×List Held,u=.tuple #[x.1,I (sP f l).2]/\x.2.map (·.2)=(sP f l).1/\Turn noB (dV x.1 x.2) w w':=by
  have Gx:=hl;obtain⟨r,hr,eF⟩:=hl;obtain⟨A,m,rfl,⟨hm,om⟩,hA⟩:=hr;have zi:=eF.len;have H:=Sep.aF w;refine bQ func69 ?_;refine Kz (Jk (Gx.keep H.kept) hn) (λw5 H5 k4=>?_);refine Vn ?_;refine Cz (λYz=>?_) (λYz=>?_)
  . have dX: ¬iw l=true:=λh=>Yz (by rw[zac h])
    refine Zb2 ?_;exact⟨(.slice none 0 0,[]),by unfold sP;rw[zab dX];rfl,by unfold sP;rw[zab dX];rfl,(Sep.fT (bD H5) 39 2).aQ.first.turn⟩
  have dX:iw l=true:=Decidable.of_not_not λh=>by
    have h1:=Yz;rw[zab h]at h1;exact h1 dC
  refine Zb2 ?_;refine aI (λx:(OA×Nat)×List Held×Nat=>[(0,I f),(1,.slice A r.length m),(6,.slice x.1.1 (aO x.2.1).length x.1.2),(7,I x.2.2)]) (λx w'=>(x.2.2<=r.length/\x.2.1.map (·.2)=adN f (l.take x.2.2)/\x.2.1.length<=x.2.2/\∀(j:Nat) o,j<x.2.2->l[j]? =some o->aW (f*o.w)=true)/\Mw.Sep w noB [aY 39 2 aA (.slice x.1.1 (aO x.2.1).length x.1.2) (aO x.2.1),vJ 41 3 ah (·.1) (λb:Held=>b.2.row) x.2.1] w') (λx _=>r.length-x.2.2) ((none,0),[],0) tR ⟨⟨zak _,rfl,zbj _,λj o hj=>zar hj (zdv _)⟩,Sep.fT (bD H5) 39 2⟩ (λx τ wa hI=>?_);obtain⟨⟨R,cR⟩,L,i⟩:=x;obtain⟨⟨hi,hL,hLi,hfi⟩,Ha⟩:=hI;dsimp only at hi hL hLi hfi Ha;refine Lp ?_;refine Cz (λIe=>?_) (λIe=>?_)
  . have aS:i<r.length:=oM
    obtain⟨o,ho⟩:=get_some (l:=l) (show i<l.length from oM);have hom:=zag ho;obtain⟨vo,zh,Dp⟩:=eF.get ho;have nu:=agI (f:=f) ho;have hLr:(aO L).length=L.length:=zaf _;refine Kz (WL f o.w hff (hf o hom)) (λwb Hb ka=>?_);obtain⟨n,tu⟩: ∃n,n=(if aW (f*o.w)=true then f*o.w else 0):=⟨_,rfl⟩;obtain⟨er,her⟩: ∃n:Int,n=(if aW (f*o.w)=true then 0 else 50):=⟨_,rfl⟩;rw[<-tu,<-her];refine Cz (λIf=>?_) (λIf=>?_)
    . have KF: ¬aW (f*o.w)=true:=λh=>If (by rw[her,zac h])
      have jN:=adO dX ho KF;have ail:er=50:=by rw[her,zab KF]
      refine Zb3 ?_;exact⟨(.slice none 0 0,[]),by rw[jN,ail];rfl,by rw[jN];rfl,(Sep.fT (bD Hb) 39 2).aQ.first.turn⟩
    have KF:aW (f*o.w)=true:=Decidable.of_not_not λh=>by
      have h1:=If;rw[her,zab h]at h1;exact h1 dC
    have Lm:n=f*o.w:=by rw[tu,zac KF]
    have aoV: ∀(j:Nat) p,j<i+1->l[j]? =some p->aW (f*p.w)=true:=λj p hj hp=>by
      by_cases e:j=i
      . subst e;rw[ho]at hp;injection hp with hp;rw[<-hp];exact KF
      exact hfi j p oM hp
    refine Cz (λIg=>?_) (λIg=>?_)
    . rw[zac (by rw[<-Lm];exact Ig)]at nu
      refine Nz (mF (Dp.keep Hb.kept) (oP o hom)) (λy wc _ Hc kb=>?_);obtain⟨Y,cy,rfl,_,_⟩:=Sep.bJ Hc At0;refine Mv ?_;refine Vb (aA (.slice Y o.row.length cy,n)) ?_;refine Bs Hc ([(Value.slice Y o.row.length cy,n)].flatMap aA) (λbs wd Hd kc=>?_);refine dG Hd (news:=[(Value.slice Y o.row.length cy,n)]) At1 (by unfold maxLen;simp only[zae];omega) (by simp only[zae];omega) (λu hu=>zaz.1 (show([(Value.slice Y o.row.length cy,n)].flatMap aA).all Value.oneCell'=true from rfl) u hu) (h:=?_);intro v9 we He;obtain⟨R2,cR2,rfl,_,_⟩:=Sep.bJ He At1;have Aj:=(iR (x:=.slice Y o.row.length cy) (o:=⟨o.row,n⟩) (He.aN.aG)).aG
      have Cj:aO L++[(Value.slice Y o.row.length cy,n)]=aO (L++[(Value.slice Y o.row.length cy,(⟨o.row,n⟩:aH))]):=by
        unfold aO;rw[zai];rfl
      have Dn:(L++[(Value.slice Y o.row.length cy,(⟨o.row,n⟩:aH))]).map (·.2)=adN f (l.take (i+1)):=by rw[zai,hL,nu,Lm];rfl
      have aik:(L++[(Value.slice Y o.row.length cy,(⟨o.row,n⟩:aH))]).length=L.length+1:=by rw[zad];rfl
      rw[Cj]at Aj ⊢;clear Cj
      generalize L++[(Value.slice Y o.row.length cy,(⟨o.row,n⟩:aH))]=L2 at Aj Dn aik |-
      refine Zb2 ?_;refine Vc ((i+1:Nat):Int) ?_;refine Zb1 ?_;exact aj ((R2,cR2),L2,i+1) tR ⟨⟨dO,Dn,dO,aoV⟩,Aj⟩ dO
    rw[zab (by rw[<-Lm];exact Ig),zbw]at nu;refine Zb1 ?_;refine Vc ((i+1:Nat):Int) ?_;refine Zb1 ?_;exact aj ((R,cR),L,i+1) tR ⟨⟨dO,by dsimp only;rw[nu];exact hL,dO,aoV⟩,Hb⟩ dO
  have jF:l.take i=l:=zaj oM;have Ck:=ZL (f:=f) dX λj o ho=>hfi j o (by have:=fO ho;omega) ho;refine Zb3 ?_;exact⟨(_,L),by rw[Ck];rfl,by rw[Ck];dsimp only;rw[hL,jF],Ha.aQ.turn⟩
def alS (hl:dI w v l) (hn:l.length<=1000) (hf: ∀o∈l,fits o.w) (oP: ∀o∈l,o.row.length<=1000):
    aR prog 40 [v] w λu w'=>∃x:Value×List Held,u=.tuple #[x.1,I (sP (-1) l).2]/\x.2.map (·.2)=(sP (-1) l).1/\Turn noB (dV x.1 x.2) w w':=by
  have H:=Sep.aF w;refine cK func40 ?_;refine Nz (agJ (-1) (by show -9223372036854775808<=(-1:Int)/\(-1:Int)<=9223372036854775807;decide) (hl.keep H.kept) hn hf oP) (λx _ hx k _=>?_);refine Zb4 ?_;exact⟨x,rfl,hx,k.turn⟩
end
def tX (a b:List aH):List aH×Int:=if iw a=true/\iw b=true then aiM a b else([],2)
def abD {a b:List aH} (ha:isZ a) (hb:isZ b):tX a b=aiM a b:=zac ⟨Cu ha,Cu hb⟩
section
variable {w:Wd}
def adP {L:List TP} (hL:aJ w v ajo 1 L) (hR: ∀x∈L,Mw.Rd w x.1 aA 2 x.2.2) (h1: ∀x∈L,∀u∈x.2.2.flatMap aA,u.oneCell'=true) (hn:(L.flatMap (·.2.2)).length<=5000) (hLn:L.length<=1000):
    aR prog 329 [v] w λu w'=>∃x:Value,u=x/\True/\Turn noB (aY 39 2 aA x (L.flatMap (·.2.2))) w w':=by
  obtain⟨A,c,rfl,⟨hc,hc'⟩,hA⟩:=hL;have H:=Sep.aF w;refine cK func329 ?_;refine Zb5 ?_;refine aI (λi:Nat=>[(0,.slice A L.length c),(3,I ((L.take i).flatMap (·.2.2)).length),(9,.slice A L.length c),(10,I L.length),(11,I i)]) (λi w'=>i<=L.length/\Mw.Sep w noB [] w') (λi _=>L.length-i) 0 tR ⟨zak _,H⟩ (λi τ _ hI=>?_);obtain⟨hi,k⟩:=hI;refine Lp ?_;refine Cz (λS=>?_) (λS=>?_)
  . have aS:i<L.length:=oM
    obtain⟨x,hx⟩:=get_some aS;obtain⟨X,cx,rx⟩:=x;have OT:=QS hx;have rG:=abC (l:=L) (i+1);rw[OT,zad]at rG;dsimp only at rG;refine Zb0 ?_;refine Vv (Gives.fF rfl rfl hA aS) (Vv (Gives.dz (v:=.slice X rx.length cx) (f:=0) rfl k hA hx rfl) ?_);refine Zb4 ?_;refine Vc ((((L.take i).flatMap (·.2.2)).length+rx.length:Nat):Int) ?_;refine Cz (λS=>?_) (λS=>?_)
    . omega
    refine Zb0 ?_;refine Vc ((i+1:Nat):Int) ?_;refine Zb1 ?_;exact aj (i+1) ⟨rfl,by rw[OT,zad];rfl,rfl,rfl,rfl,trivial⟩ ⟨oM,k⟩ oM
  have jF:i=L.length:=oM;rw[jF,zbr];refine Nz (agH (L.flatMap (·.2.2)).length oM) (λg _ _ S _=>?_);obtain⟨G,cG,rfl,_,_⟩:=Sep.bJ S At0;refine Zb4 ?_;refine aI (λx:(OA×Nat)×Nat=>[(0,.slice A L.length c),(6,.slice x.1.1 ((L.take x.2).flatMap (·.2.2)).length x.1.2),(25,.slice A L.length c),(26,I L.length),(27,I x.2)]) (λx w'=>x.2<=L.length/\Mw.Sep w noB [aY 39 2 aA (.slice x.1.1 ((L.take x.2).flatMap (·.2.2)).length x.1.2) ((L.take x.2).flatMap (·.2.2))] w') (λx _=>L.length-x.2) ((G,cG),0) tR ⟨zak _,S⟩ (λx τ _ hI=>?_);obtain⟨⟨R,cR⟩,i⟩:=x;obtain⟨hi,S⟩:=hI;dsimp only at hi S;refine Lp ?_;refine Cz (λk=>?_) (λk=>?_)
  . have aS:i<L.length:=oM
    obtain⟨x,hx⟩:=get_some aS;obtain⟨X,cx,rx⟩:=x;have OT:=QS hx;have rG:=abC (l:=L) (i+1);rw[OT,zad]at rG;dsimp only at rG OT;have hRx:=hR _ (zag hx);have h1x:=h1 _ (zag hx);dsimp only at hRx h1x;refine Zb0 ?_;refine Vv (Gives.fF rfl rfl hA aS) (Vv (Gives.dz (v:=.slice X rx.length cx) (f:=0) rfl S hA hx rfl) ?_);refine Zb3 ?_;refine mU S At0 (hRx.keep S.kept) (by unfold maxLen;omega) oM h1x (h:=?_);intro v9 k k;rw[<-OT]at k;obtain⟨R2,cR2,rfl,_,_⟩:=Sep.bJ k At0;refine Zb1 ?_;refine Vc ((i+1:Nat):Int) ?_;refine Zb1 ?_;exact aj ((R2,cR2),i+1) tR ⟨dO,k⟩ dO
  have jF:i=L.length:=oM;rw[jF,zbr]at S;refine Zb2 ?_;exact⟨.slice R (L.flatMap (·.2.2)).length cR,by rw[jF,zbr];rfl,trivial,S.turn⟩
def adQ {a b:List aH} {va vb:Value} (ha:dI w va a) (hb:dI w vb b) (U1:a.length<=500) (hbl:b.length<=500) (haf: ∀o∈a,fits o.w) (hbf: ∀o∈b,fits o.w) (har: ∀o∈a,o.row.length<=1000) (hbr: ∀o∈b,o.row.length<=1000):
    aR prog 319 [va,vb] w λu w'=>∃x:Value×List Held,u=.tuple #[x.1,I (tX a b).2]/\x.2.map (·.2)=(tX a b).1/\Turn noB (dV x.1 x.2) w w':=by
  have H:=Sep.aF w;have ha0:=ha;have D6:=hb;obtain⟨r,hr,eF⟩:=ha;obtain⟨s,hs,PG⟩:=hb;have hr0:=hr;have k:=hs;obtain⟨A,c,rfl,⟨hc,hc'⟩,hA⟩:=hr;obtain⟨B,d,rfl,⟨hd,hd'⟩,hB⟩:=hs;have zi:=eF.len;have X9:=PG.len;refine bQ func319 ?_;refine Kz (QN (ha0.keep H.kept) oM) (λ_ k _=>?_);refine Sz (λS=>?_) (λS=>?_)
  . refine Zb3 ?_
    have hk: ¬(iw a=true/\iw b=true):=λh=>by
      have h1:=h.1;have h2:=h.2;simp[h1,h2]at *
    exact⟨(.slice none 0 0,[]),by unfold tX;rw[zab hk];rfl,by unfold tX;rw[zab hk];rfl,(Sep.fT (bD k) 39 2).aQ.first.turn⟩
  refine Kz (QN (D6.keep k.kept) oM) (λ_ S _=>?_);refine Cz (λk=>?_) (λk=>?_)
  . refine Zb2 ?_
    have hk: ¬(iw a=true/\iw b=true):=λh=>by
      have h1:=h.1;have h2:=h.2;simp[h1,h2]at *
    exact⟨(.slice none 0 0,[]),by unfold tX;rw[zab hk];rfl,by unfold tX;rw[zab hk];rfl,(Sep.fT (bD S) 39 2).aQ.first.turn⟩
  refine Zb2 ?_;refine Bs S ([((A,c,r):TP),(B,d,s)].flatMap ajo) (λbs _ k _=>?_);have tq:=M6 (enc:=ajo) (l:=[((A,c,r):TP),(B,d,s)]) k At0 rfl (by show 2<=100000;decide);have Ll:([((A,c,r):TP),(B,d,s)]).flatMap (·.2.2)=r++s:=sM;refine Nz (adP tq (λx hx=>?_) (λx hx=>?_) (by rw[Ll,zad];omega) (by show 2<=1000;decide)) (λy _ _ S _=>?_)
  . rcases zba.1 hx with e | e
    . rw[e];exact hA.keep k.kept
    rw[zau]at e;rw[e];exact hB.keep k.kept
  . rcases zba.1 hx with e | e
    . rw[e];exact rM eF
    rw[zau]at e;rw[e];exact rM PG
  rw[Ll]at S;have OQ:dI _ y (a++b):=⟨_,jG S At0,(eF.app PG).keep S.kept⟩;refine Nz (FP OQ (by rw[zad];omega) (λo ho=>(zbk.1 ho).elim (haf o) (hbf o)) (λo ho=>(zbk.1 ho).elim (har o) (hbr o))) (λz _ hz S _=>?_);refine Zb4 ?_
  have hk:iw a=true/\iw b=true:=by
    refine⟨Decidable.of_not_not λh=>?_,Decidable.of_not_not λh=>?_⟩
    . simp[h]at *
    simp[h]at *
  exact⟨z,by unfold tX;rw[zac hk];rfl,by unfold tX;rw[zac hk];exact hz,S.first.turn⟩
end
def Nb (r:List aC): ∀ks:List (List aC),(yh r ks).length<=ks.length+1
 | []=>zbj _
 | k::ks=>by
  have:=Nb r ks;rw[yh]
  split
  .exact zbj _
  split
  .exact Nat.le_succ _
  simp only[zas];omega
def Jl: ∀l:List aH,(lS l).length<=l.length
 | []=>zbj _
 | x::l=>by
  have h1:=Jl l;have h2:=Nb x.row (lS l);rw[lS,zas];omega
def Nc (l:List aH):(dh l).1.length<=l.length:=by
 unfold dh
 split
 .unfold GJ
  rw[zaf];exact zda (zfs _ _) (Jl l)
 exact zak _
def Jm (h:o∈(dh l).1): ∃x∈l,x.row=o.row:=by
 unfold dh at h
 split at h
 .exact uG.1 (L6.1 h).1
 exact zar h zan
def Nf (T m:List aH):(List aH×Int)×List aH:=
 if(dh m).2≠0 then(([],(dh m).2),T)else if(tX T (dh m).1).2≠0 then(([],(tX T (dh m).1).2),T)else(((dh m).1,0),(tX T (dh m).1).1)
section
variable {w:Wd} {F:NP}
def WY {bp:Nat} {tv:Value} {T m:List aH} (hp:(star (blk bp [tv] 70) (Bq tv T)).ok F w) (hm: ∀w1,Kept F w w1->dI w1 v m) (hTl:T.length<=500) (Gy:m.length<=500) (hTf: ∀o∈T,fits o.w) (hmf: ∀o∈m,fits o.w) (hTr: ∀o∈T,o.row.length<=1000) (hmr: ∀o∈m,o.row.length<=1000):
    aR prog 316 [ay bp,v] w λu w'=>∃x:(Value×List Held)×Value,u=.tuple #[x.1.1,I (Nf T m).1.2]/\x.1.2.map (·.2)=(Nf T m).1.1/\Turn F (star (dV x.1.1 x.1.2) (star (blk bp [x.2] 70) (Bq x.2 (Nf T m).2))) w w':=by
  have H:=(Sep.bR hp).bL;refine bQ func316 ?_;refine Nz (FP (hm _ H.kept) oM hmf hmr) (λx _ hx k _=>?_);obtain⟨xv,L⟩:=x;dsimp only at hx k ⊢;refine Cz (λS=>?_) (λS=>?_)
  . have j5:Nf T m=(([],(dh m).2),T):=by unfold Nf;rw[zac S]
    refine Zb3 ?_;exact⟨((.slice none 0 0,[]),tv),by rw[j5];rfl,by rw[j5];rfl,by rw[j5];exact(Sep.fT (bD k.bH.aQ) 39 2).aQ.aQ.turn⟩
  have za:(dh m).2=0:=Decidable.of_not_not S;have hZ:isZ (dh m).1:=yj;have hdl:=Nc m;refine Zb5 ?_;have hT0:dI _ tv T:=Sep.sees k At2;have hX0:=fV k At0;rw[hx]at hX0;refine Nz (adQ hT0 hX0 hTl oM hTf (λo ho=>by have h:=zbd (hZ.2.2 o ho);unfold fits;omega) hTr (λo ho=>by obtain⟨q,hq,e⟩:=Jm ho;rw[<-e];exact hmr q hq)) (λy _ hy S _=>?_);obtain⟨yv,Ly⟩:=y;dsimp only at hy S ⊢;obtain⟨Y,cy,rfl,_,_⟩:=Sep.bJ S.bL At0;refine Cz (λk=>?_) (λk=>?_)
  . have j5:Nf T m=(([],(tX T (dh m).1).2),T):=by unfold Nf;rw[zab (λh=>h za),zac k]
    refine Zb3 ?_;exact⟨((.slice none 0 0,[]),tv),by rw[j5];rfl,by rw[j5];rfl,by rw[j5];exact(Sep.fT (bD S.bH.bH.aQ) 39 2).aQ.aQ.turn⟩
  have ha0:(tX T (dh m).1).2=0:=Decidable.of_not_not k;have j5:Nf T m=(((dh m).1,0),(tX T (dh m).1).1):=by unfold Nf;rw[zab (λh=>h za),zab k]
  refine Uz (λ_ k=>?_);refine Zb3 ?_;have h1:=O6 k At0;rw[hy]at h1;exact⟨((xv,L),_),by rw[j5];rfl,by rw[j5];exact hx,by rw[j5];exact(h1.aN.aQ.aG.aQ.first.turn)⟩
def agK (hl:dI w v l) (hn:l.length<=1000) (oP: ∀o∈l,o.row.length<=1000):aR prog 320 [v] w λu w'=>∃x:Value×List Held,u=x.1/\x.2.map (·.2)=l/\Turn noB (dV x.1 x.2) w w':=by
 obtain⟨r,hr,eF⟩:=hl;obtain⟨A,m,rfl,⟨hm,om⟩,hA⟩:=hr;have zi:=eF.len;have H:=Sep.aF w;refine cK func320 ?_;refine Zb4 ?_;refine aI (λx:(OA×Nat)×List Held×Nat=>[(2,.slice x.1.1 (aO x.2.1).length x.1.2),(5,.slice A r.length m),(6,I r.length),(7,I x.2.2)]) (λx w'=>(x.2.2<=r.length/\x.2.1.map (·.2)=l.take x.2.2)/\Mw.Sep w noB [aY 39 2 aA (.slice x.1.1 (aO x.2.1).length x.1.2) (aO x.2.1),vJ 41 3 ah (·.1) (λb:Held=>b.2.row) x.2.1] w') (λx _=>r.length-x.2.2) ((none,0),[],0) tR ⟨⟨zak _,rfl⟩,Sep.fT (bD H) 39 2⟩ (λx τ _ hI=>?_);obtain⟨⟨R,cR⟩,L,i⟩:=x;obtain⟨⟨hi,hL⟩,k⟩:=hI;dsimp only at hi hL k;refine Lp ?_;refine Cz (λS=>?_) (λS=>?_)
 .have aS:i<r.length:=oM
  obtain⟨o,ho⟩:=get_some (l:=l) (show i<l.length from oM);have hom:=zag ho;obtain⟨vo,zh,Dp⟩:=eF.get ho;have amS:=Dp;obtain⟨Vo,co,rfl,_,_⟩:=Dp;have hLr:(aO L).length=L.length:=zaf _
  have hLn:L.length<=i:=by
   have h1:=zaw List.length hL;rw[zaf,zah]at h1;omega
  refine Az (λb4 _ _ _=>?_);refine Tz (λ_ _=>?_);refine Dz (λS _ a=>?_);refine Zb3 ?_;refine Gp S 4 rfl rfl (λ_=>(Gives.xL rfl)) (Zb1 ?_);refine dY S 3 [(5,false),(4,true),(0,true)] a (qg (amS.keep a.kept) (oP o hom)) (h:=λy _ _ a _=>?_);obtain⟨Y,cy,rfl,_,_⟩:=Sep.bJ a At0;refine⟨sL,?_⟩;refine Gb S 6 (aA (.slice Y o.row.length cy,o.w)) ?_;refine Gz S 7 _ a ([(Value.slice Y o.row.length cy,o.w)].flatMap aA) (h:=λbs _ a=>⟨sT,?_⟩);refine gF S 8 _ a (news:=[(Value.slice Y o.row.length cy,o.w)]) At2 (by unfold maxLen;simp only[zae];omega) (by simp only[zae];omega) (λu hu=>zaz.1 (show([(Value.slice Y o.row.length cy,o.w)].flatMap aA).all Value.oneCell'=true from rfl) u hu) (h:=λv9 _ a=>?_);obtain⟨R2,cR2,rfl,_,_⟩:=Sep.bJ a At2
  have Cj:aO L++[(Value.slice Y o.row.length cy,o.w)]=aO (L++[(Value.slice Y o.row.length cy,o)]):=by
   unfold aO;rw[zai];rfl
  have Dn:(L++[(Value.slice Y o.row.length cy,o)]).map (·.2)=l.take (i+1):=by rw[zai,hL,zay,ho];rfl
  refine⟨sT,?_⟩;refine sH S 9 _ (h:=⟨sT,?_⟩);refine Zb0 ?_;refine Vc ((i+1:Nat):Int) ?_;refine Zb1 ?_;have Aj:=(iR (x:=.slice Y o.row.length cy) (o:=o) (a.aG.bH.aN.aG)).aG;rw[Cj]at Aj;exact aj ((R2,cR2),L++[(Value.slice Y o.row.length cy,o)],i+1) ⟨by rw[<-Cj];rfl,rfl,rfl,rfl,trivial⟩ ⟨⟨dO,Dn⟩,Aj⟩ dO
 have jF:l.take i=l:=zaj oM;refine Zb2 ?_;exact⟨(_,L),rfl,by dsimp only;rw[hL,jF],k.aQ.turn⟩
end
end
end Go.Proofs.Mw
