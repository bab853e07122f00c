/-
 One run of rows in order,summed up;walked.
-/
import Derived.Test.YtbkjpdboaclopaaGreatDoorNd21
set_option linter.all false
set_option maxRecDepth 4000
namespace Go.Proofs.Mw
variable {w:Wd} {A:OA} {ps:List Nat} {bytes c i:Nat} {P:Program} {ρ:Od->Value} {x:Od} {l:List aG} {o:aG} {v:Value}
open Go.Lib Go.Proofs.Tryz
section
attribute [local irreducible] FW FL FG FGn jJ jO fC lJ Qfn Gives
def aeF (A:OA) (c:Nat):Nat->OA
 | 0=>A
 | i+1=>if c-i=1 then aeF A c i else(aeF A c i).map (·.add 1)
def aaw (h:Mw.Rd w A Gq 1 ps) (hc:ps.length<=c): ∀i,i<=ps.length->Mw.Rd w (aeF A c i) Gq 1 (ps.drop i)
 | 0,_=>by rw[zde];exact h
 | i+1,hi=>by
  have h1:=Us (c:=c-i) (j:=1) (aaw h hc i oM) (by rw[zbo];omega) (by rw[zbo];omega);rw[zfx,Nat.one_mul]at h1;exact h1
def eX {α:Type} {c m k:Nat} {enc:α->LV} {l:List α} (h:aJ w (.slice A m c) enc k l):Mw.Rd w A enc k l:=by
 obtain⟨A',c',e,_,hr⟩:=h;injection e with e1 e2 e3
 subst e1;exact hr
def psV (A:OA) (c n i:Nat):Value:=.slice (aeF A c i) (n-i) (c-i)
def Gives.aq9 {ty:Td} {y:Od} {t e:Td} [ht:dn P t e] [hc:Cells P e 1 bytes] {n:Nat} (hx:ρ x=psV A c n i) (hy:ρ y=I 1) (hi:i<n):Gives P ρ (.slice t x (some y) none none) ty w (psV A c n (i+1)) w:=by
 have h:=Gives.sliceFrom (P:=P) (ρ:=ρ) (ty:=ty) (w:=w) (t:=t) (e:=e) (x:=x) (y:=y) (l:=1) hx hy oM;exact h
def Gives.amU {ty:Td} {w0:Wd} {y:Od} {t e:Td} [ht:dn P t e] [hc:Cells P e 1 bytes] {j:Nat} (hx:ρ x=psV A c ps.length j) (hy:ρ y=I 0) (hr:Mw.Rd w0 A Gq 1 ps) (hcap:ps.length<=c) (hj:j<ps.length):Gives P ρ (.indexAddr t x y) ty w (adr (aeF A c j) 0) w:=by
 have h0:=aaw hr hcap j oM;have hl:(ps.drop j).length=ps.length-j:=zbo;exact Gives.fA (i:=0) (by rw[hl];exact hx) hy h0 oM
def Gives.aht {ty:Td} {T:Td} [OneCell P T] {j p:Nat} (hx:ρ x=adr (aeF A c j) 0) (hr:Mw.Rd w A Gq 1 ps) (hcap:ps.length<=c) (hj:ps[j]? =some p):Gives P ρ (.load T x) ty w (I p) w:=by
 have h0:=aaw hr hcap j (by have:=fI hj;omega);exact Gives.dG (i:=0) (f:=0) hx (Sep.aH w) h0 (by rw[zcj];exact hj) rfl
def ahu {l:List aG} (hf: ∀o∈l,fits o.w) (r:List aC): -((l.length:Int)*9223372036854775808)<=wtL l r/\wtL l r<=(l.length:Int)*9223372036854775808:=by
 induction l with
 | nil=>exact⟨Int.le_refl _,Int.le_refl _⟩
 | cons x l ih=>
  obtain⟨h1,h2⟩:=ih λo ho=>hf o (zau _ ho);obtain⟨h3,h4⟩:=hf x zao;rw[wtL,zaq]
  split<;>omega
def akm {r:List aC} (h:l[i]? =some o) (he:o.row=r):wtL (l.take (i+1)) r=wtL (l.take i) r+o.w:=by
 rw[zat,h,jh];show _+((if o.row=r then o.w else 0)+0)=_
 rw[zac he,zgf]
def ara (y:Value) (s:Int):Value:=.tuple #[agg (aA (y,if aY s=true then s else 0)),I (if aY s=true then 0 else 50)]
section
variable {w:Wd} {F:NP}
theorem ahv {b0 b4 b1:Nat} {E0 E4 E1:Td} {A:OA} {c j p0:Nat} {ps:List Nat} {V:Value} {r:List (Value×Int)} {l q:List aG} {x:aG}
    (hp:(star (blk b0 [psV A c ps.length j] E0) (star (blk b4 [V] E4) (blk b1 [V] E1))).ok F w) (hS: ∀w1,Kept F w w1->Mw.Rd w1 A Gq 1 ps) (hc:ps.length<=c)
    (hV: ∀w1,Kept F w w1->aJ w1 V aA 2 r) (eP: ∀w1,Kept F w w1->gN w1 r l) (hj:ps[j]? =some p0) (hx:l[p0]? =some x) (hq: ∀(i p:Nat),ps[i]? =some p->p<l.length/\l[p]? =q[i]?) (Zl:q.length=ps.length)
    (hn:ps.length<=1000) (hl:l.length<=1000) (hf: ∀o∈q,fits o.w) (mU:x.row.length<=1000):
    aQ Tryz.prog 151 [av b0,av b4,av b1] w λu w'=>∃z:Value×Nat,u=ara z.1 (wtL ((q.drop j).take z.2) x.row)/\(0<z.2/\j+z.2<=ps.length/\(∀o∈(q.drop j).take z.2,o.row=x.row)/\∀o,(q.drop j)[z.2]? =some o->o.row≠x.row)/\
      Turn F (star (aU 47 3 ah z.1 x.row) (star (blk b0 [psV A c ps.length (j+z.2)] E0) (star (blk b4 [V] E4) (blk b1 [V] E1)))) w w':=by
  have H:=((Sep.bW hp).bE).aF.bE;have Tv:=fI hj;obtain⟨Ql,hpq⟩:=hq j p0 hj;have hqx:q[j]? =some x:=by rw[<-hpq];exact hx
  have hxq:(q.drop j)[0]? =some x:=by rw[zcj];exact hqx
  have hdl:(q.drop j).length=ps.length-j:=by rw[zbo,Zl]
  have hfd: ∀o∈q.drop j,fits o.w:=λo ho=>hf o (zeg ho);obtain⟨B,m,hVe,⟨hBm,nX⟩,_⟩:=hV w (Kept.refl _ _);subst hVe;obtain⟨vx,hvx,CS⟩:=(eP w (Kept.refl _ _)).get hx;have yL:=(eP w (Kept.refl _ _)).len;obtain⟨E6,hE6⟩: ∃E6,E6=231:=⟨_,rfl⟩;refine AJ Tryz.func151 ?_;refine Az (λb3 w2 H2 k1=>?_);refine V2 ?_;refine Vv (Gives.amU rfl rfl (hS _ H2.kept) hc Tv) (Vv (Gives.aht rfl (hS _ H2.kept) hc hj) ?_);refine Az (λb6 w9 H9 k8=>?_);refine V0 ?_;refine aI (λi:Nat=>[(0,av b0),(1,av b4),(2,av b1),(3,av b3),(4,I 0),(5,I p0),(6,av b6)]) (λi w'=>(j+i<=ps.length/\∀o∈(q.drop j).take i,o.row=x.row)/\Sep w F [blk b6 (bZ (wtL ((q.drop j).take i) x.row)) 231,blk b3 (aA (.slice none 0 0,0)) 60,blk b4 [.slice B r.length m] E4,blk b1 [.slice B r.length m] E1,blk b0 [psV A c ps.length (j+i)] E0] w') (λi _=>ps.length-i) 0 tR ⟨⟨oM,λo ho=>by simp at ho⟩,H9⟩ (λi τ wa hI=>?_);obtain⟨⟨hi,jN⟩,Ha⟩:=hI;have hS1:=hS _ Ha.kept;refine Lp ?_;refine Dz (λSa wb Hb=>?_);refine V2 ?_;refine GS (Gn rfl (λ_=>(Gives.gtr (k:=.i64) rfl rfl)) ?_);refine V1 ?_;refine fK (t:=15) rfl (λSb=>?_) (λSb=>?_)
  . have aX:j+i<ps.length:=oM
    obtain⟨p1,hp1⟩:=get_some aX;obtain⟨asR,asS⟩:=hq (j+i) p1 hp1;obtain⟨o1,ho1⟩:=get_some asR;have Pn:(q.drop j)[i]? =some o1:=by rw[zcj,<-asS];exact ho1
    obtain⟨vo,zJ,DU⟩:=(eP w (Kept.refl _ _)).get ho1;refine vR Sa 4 Hb (h:=?_);refine V2 ?_;refine GS (Gn rfl (λ_=>(Gives.amU rfl rfl (hS _ Hb.kept) hc aX)) ?_);refine GS (Gt rfl (Gives.aht rfl (hS _ Hb.kept) hc hp1) ?_);refine dA Sa 9 _ Hb (ND (hV _ Hb.kept) (eP _ Hb.kept) hx ho1) (h:=λwc Hc ka=>⟨sT,?_⟩);refine O2 ?_;refine fO Sa kR ?_;refine Cz (λIe=>?_) (λIe=>?_)
    . have al8:o1.row=x.row:=by
        have h0:=(fT.eq0 x.row o1.row).1 oM;exact h0.symm
      have asT:=akm Pn al8
      have ap0: ∀o∈(q.drop j).take (i+1),o.row=x.row:=by
        intro o ho;rw[zat,Pn]at ho
        rcases zbk.1 ho with h | h
        . exact jN o h
        rw[zcz,zaw]at h;rw[h];exact al8
      refine Dz (λSc wd Hd=>?_);refine V3 ?_;refine GS (Gn rfl (λ_=>(Gives.amU rfl rfl (hS _ Hd.kept) hc aX)) ?_);refine GS (Gt rfl (Gives.aht rfl (hS _ Hd.kept) hc hp1) ?_);refine GS (Gn rfl (λ_=>(Gives.fA rfl rfl (eX (hV _ Hd.kept)) (fI zJ))) ?_);refine V1 ?_;refine GS (Gt rfl (Gives.dG (f:=1) rfl (Sep.aH _) (eX (hV _ Hd.kept)) zJ rfl) ?_);refine dA Sc 8 [(0,false)] Hd (Uk o1.w (hfd o1 (zag Pn))) (h:=λwe He kb=>⟨sU,?_⟩);refine dA Sc 9 _ He (Ul (wtL ((q.drop j).take i) x.row) o1.w) (h:=λwf Hf kc=>⟨sT,?_⟩);refine bM Sc 10 _ Hf (h:=λwg Hg=>⟨sT,?_⟩);refine V1 ?_;refine Vv (Gives.aq9 rfl rfl aX) (Uz (λwh Hh=>?_));refine V0 ?_;exact aj (i+1) tR ⟨⟨oM,ap0⟩,by rw[asT];exact Hh⟩ oM
    refine V1 ?_
    have q9:0<i/\∀o,(q.drop j)[i]? =some o->o.row≠x.row:=by
      first
      | exact⟨oM,λo ho=>by have:=fI ho;omega⟩
      | (have iJ:jK x.row o1.row≠0:=oM
         refine⟨Nat.pos_of_ne_zero λh=>iJ ?_,λo ho e=>iJ ?_⟩
         . subst h;rw[hxq]at Pn;injection Pn with e;rw[<-e];exact fT.self _
         rw[Pn]at ho;injection ho with ho;rw[ho,e];exact fT.self _)
    have hb:=ahu (l:=(q.drop j).take i) (λo ho=>hfd o (zcg ho)) x.row;have Bj:((q.drop j).take i).length<=1000:=by rw[zah];omega
    refine Kz (Um (wtL ((q.drop j).take i) x.row) oM oM) (λwi Hi kd=>?_);refine V7 ?_;refine Vv (Gives.fA rfl rfl (eX (hV _ Hi.kept)) (fI hvx)) (V1 ?_);refine Vv (Gives.dG (f:=0) rfl (Sep.aH _) (eX (hV _ Hi.kept)) hvx rfl) (GL Hi (qp ((eP _ Hi.kept).2 p0 _ _ hvx hx) mU) (h:=?_));intro y wj _ Hj ke;obtain⟨Ay,cy,rfl,_,_⟩:=Sep.bH Hj At0;refine Mv ?_;refine Vb (aA (.slice Ay x.row.length cy,_)) ?_;refine Mv ?_;refine Tz (λwk Hk=>?_);refine V1 ?_;exact⟨_,bF Hk,(_,i),rfl,⟨q9.1,hi,jN,q9.2⟩,(Hk.jC.jC.jC.aR.aF.aR.aF.aR).first.turn⟩
  refine V2 ?_
  have q9:0<i/\∀o,(q.drop j)[i]? =some o->o.row≠x.row:=by
    first
    | exact⟨oM,λo ho=>by have:=fI ho;omega⟩
    | (have iJ:jK x.row o1.row≠0:=oM
       refine⟨Nat.pos_of_ne_zero λh=>iJ ?_,λo ho e=>iJ ?_⟩
       . subst h;rw[hxq]at Pn;injection Pn with e;rw[<-e];exact fT.self _
       rw[Pn]at ho;injection ho with ho;rw[ho,e];exact fT.self _)
  have hb:=ahu (l:=(q.drop j).take i) (λo ho=>hfd o (zcg ho)) x.row;have Bj:((q.drop j).take i).length<=1000:=by rw[zah];omega
  refine Kz (Um (wtL ((q.drop j).take i) x.row) oM oM) (λwl Hl kf=>?_);refine V7 ?_;refine Vv (Gives.fA rfl rfl (eX (hV _ Hl.kept)) (fI hvx)) (V1 ?_);refine Vv (Gives.dG (f:=0) rfl (Sep.aH _) (eX (hV _ Hl.kept)) hvx rfl) (GL Hl (qp ((eP _ Hl.kept).2 p0 _ _ hvx hx) mU) (h:=?_));intro y wm _ Hm kg;obtain⟨Ay,cy,rfl,_,_⟩:=Sep.bH Hm At0;refine Mv ?_;refine Vb (aA (.slice Ay x.row.length cy,_)) ?_;refine Mv ?_;refine Tz (λwn Hn=>?_);refine V1 ?_;exact⟨_,bF Hn,(_,i),rfl,⟨q9.1,hi,jN,q9.2⟩,(Hn.jC.jC.jC.aR.aF.aR.aF.aR).first.turn⟩
end
def akn (hp:ps.Perm (List.range l.length)) (hs:ps.Pairwise λi j=>∀a b,l[i]? =some a->l[j]? =some b->jK a.row b.row<=0):
    ∃q:List aG,q.length=ps.length/\(∀(i p:Nat),ps[i]? =some p->p<l.length/\l[p]? =q[i]?)/\q.Perm l/\C8 q:=by
  have aX: ∀p∈ps,p<l.length:=λp h=>zeo.1 (hp.mem_iff.1 h);refine⟨ps.map λp=>l[p]?.getD ⟨[],0⟩,zae _,λi p h=>⟨aX p (zag h),?_⟩,?_,?_⟩
  . have h1:=aX p (zag h)
    rw[zbz,h,zdv,zab h1];rfl
  . have h2:=hp.map λp=>l[p]?.getD ⟨[],0⟩
    have e:((List.range l.length).map λp=>l[p]?.getD ⟨[],0⟩)=l:=by
      refine List.ext_getElem sM λi h1 h2=>?_;simp[zab h2]
    rw[e]at h2;exact h2
  unfold C8;rw[List.pairwise_map];refine hs.imp_of_mem λ{a b} ha hb h=>h _ _ ?_ ?_
  . rw[zab (aX a ha)];rfl
  rw[zab (aX b hb)];rfl
section
variable {w:Wd}
theorem Gr (hl:dS w v l) (hn:l.length<=1000) (hf: ∀o∈l,fits o.w) (mU: ∀o∈l,o.row.length<=1000):
    aQ Tryz.prog 96 [v] w λu w'=>∃x:Value×List Held,u=.tuple #[x.1,I (cO l).2]/\x.2.map (·.2)=(cO l).1/\Turn noB (dz x.1 x.2) w w':=by
  have Jb:=hl;obtain⟨r,hr,eP⟩:=hl;have hr0:=hr;obtain⟨B,m,rfl,⟨hm,nX⟩,hA⟩:=hr;have yL:=eP.len;have H:=Sep.aH w;refine dh Tryz.func96 ?_;refine Sr (bB H (cs:=[.slice B r.length m]) rfl (h:=λb1 _ _ _=>?_));refine Az (λb4 _ _ _=>?_);refine Uz (λ_ k=>?_);refine Nz (aeE (l:=l) (Jb.keep k.kept) hn) (λy _ hy k _=>?_);obtain⟨S,ps⟩:=y;obtain⟨aji,al9⟩:=hy;dsimp only at k aji al9 ⊢;obtain⟨A,c,rfl,hc,_⟩:=Sep.bH k At0;have k:=dY k At0;obtain⟨q,Zl,hq,hqp,hqs⟩:=akn aji al9;have Ql:ps.length=l.length:=by rw[aji.length_eq,zeb]
  have hqf: ∀o∈q,fits o.w:=λo ho=>hf o (hqp.mem_iff.1 ho);refine Az (λb5 _ _ _=>?_);refine Uz (λ_ k=>?_);refine V2 ?_;have Pw:=(Sep.gy (bJ k) 60 2).jC.jC.gu.jC;refine aI (λx:(OA×Nat)×List Held×Nat=>[(1,av b1),(2,.slice x.1.1 (aP x.2.1).length x.1.2),(4,av b4),(5,av b5),(6,.func (.func 151) #[] #[av b5,av b4,av b1])]) (λx w'=>(xJ l (x.2.1.map (·.2)) (q.drop x.2.2)/\x.2.2<=ps.length/\x.2.1.length<=x.2.2)/\Mw.Sep w noB [F9 (.slice A ps.length c) Gq 1 ps,blk b5 [psV A c ps.length x.2.2] 119,blk b4 [.slice B r.length m] 165,blk b1 [.slice B r.length m] 41,aU 60 2 aA (.slice x.1.1 (aP x.2.1).length x.1.2) (aP x.2.1),vZ 47 3 ah (·.1) (λb:Held=>b.2.row) x.2.1] w') (λx _=>ps.length-x.2.2) ((none,0),[],0) tR ⟨⟨xJ.start hqp hqs,zai _,zbi _⟩,Pw⟩ (λx τ _ hI=>?_);obtain⟨⟨R,cR⟩,L,j⟩:=x;obtain⟨⟨hNI,hjn,hLj⟩,k⟩:=hI;dsimp only at hNI hjn hLj k;refine Lp ?_;refine Cz (λa=>?_) (λa=>?_)
  . have aX:j<ps.length:=oM
    obtain⟨p0,eO⟩:=get_some aX;obtain⟨asV,asW⟩:=hq j p0 eO;obtain⟨x,hx⟩:=get_some asV;have hqx:(q.drop j)[0]? =some x:=by rw[zcj,zfb,<-asW];exact hx
    refine V1 ?_;have a:=k.aS.aS.aR.aO.aR.aF;obtain⟨F0,rC,gQ,hX0,aK⟩:=Sep.amT a At0;refine eY (fs:=[]) (cs:=[av b5,av b4,av b1]) (vals:=[]) rfl (ahv (A:=A) (c:=c) (j:=j) (ps:=ps) (V:=.slice B r.length m) (r:=r) (l:=l) (q:=q) (x:=x) rC (λd h1=>eX (hX0 d h1).1) hc (λd h1=>hr0.keep (hX0 d h1).2) (λd h1=>eP.keep (hX0 d h1).2) eO hx hq Zl oM hn hqf (mU x (zag hx))) rfl rfl (λv' _ hv=>?_);obtain⟨⟨y,i⟩,rfl,⟨hi0,hi1,jN,Qk⟩,asX,F1,jB,d⟩:=hv;have a:=(aK _ F1 _ asX jB d).aF.bE.aF.bE.aF.bE;dsimp only at hi0 hi1 jN Qk a;obtain⟨Ay,cy,rfl,_,_⟩:=Sep.bH a At3;refine Az (λb7 _ _ _=>?_);refine Tz (λ_ d=>?_);refine Cz (λa=>?_) (λa=>?_)
    . have Lh: ¬aY (wtL ((q.drop j).take i) x.row)=true:=λh=>a (by rw[zac h])
      have jV:=hNI.bad hqx Qk Lh;refine V3 ?_;exact⟨(.slice none 0 0,[]),by rw[jV];exact zay (λz=>Value.tuple #[Value.slice none 0 0,I z]) (zaa Lh),by rw[jV];rfl,(Sep.gy (bJ d) 60 2).aR.first.turn⟩
    have Lh:aY (wtL ((q.drop j).take i) x.row)=true:=Decidable.of_not_not λh=>by
      have h1:=a;rw[zaa h]at h1;exact h1 dC
    have tu:=hNI.step hqx jN Qk Lh;rw[zfx]at tu;rw[zac Lh]at d;refine Cz (λa=>?_) (λa=>?_)
    . rw[zac a]at tu
      refine V2 ?_;refine Bs d ([(Value.slice Ay x.row.length cy,wtL ((q.drop j).take i) x.row)].flatMap aA) (λbs _ e _=>?_);have hLr:(aP L).length=L.length:=zae _;refine dJ e (news:=[(Value.slice Ay x.row.length cy,wtL ((q.drop j).take i) x.row)]) At6 (by unfold maxLen;simp;omega) (by simp;omega) (λu hu=>zba.1 (show([(Value.slice Ay x.row.length cy,wtL ((q.drop j).take i) x.row)].flatMap aA).all Value.oneCell'=true from rfl) u hu) (h:=?_);intro v9 e e;obtain⟨R2,cR2,rfl,_,_⟩:=Sep.bH e At6;have zK:=iF (x:=.slice Ay x.row.length cy) (o:=⟨x.row,wtL ((q.drop j).take i) x.row⟩) (e.bI.lu.gu)
      have CV:aP L++[(Value.slice Ay x.row.length cy,wtL ((q.drop j).take i) x.row)]=aP (L++[(Value.slice Ay x.row.length cy,(⟨x.row,wtL ((q.drop j).take i) x.row⟩:aG))]):=by
        unfold aP;rw[zak];rfl
      have CU:xJ l ((L++[(Value.slice Ay x.row.length cy,(⟨x.row,wtL ((q.drop j).take i) x.row⟩:aG))]).map (·.2)) (q.drop (j+i)):=by rw[zak];exact tu
      have ajj:(L++[(Value.slice Ay x.row.length cy,(⟨x.row,wtL ((q.drop j).take i) x.row⟩:aG))]).length=L.length+1:=by rw[zad];rfl
      rw[CV]at zK ⊢;clear CV
      generalize L++[(Value.slice Ay x.row.length cy,(⟨x.row,wtL ((q.drop j).take i) x.row⟩:aG))]=L2 at zK CU ajj |-
      refine V1 ?_;exact aj ((R2,cR2),L2,j+i) tR ⟨⟨CU,hi1,dO⟩,zK.jC.aS.aS.gu.jC⟩ dO
    rw[zaa a]at tu;refine V0 ?_;exact aj ((R,cR),L,j+i) tR ⟨⟨tu,hi1,dO⟩,d.bI.aS.bI.aO.aS⟩ dO
  have q9:j=ps.length:=oM;have mE:q.drop j=[]:=zbu oM;rw[mE]at hNI;refine V3 ?_;exact⟨(_,L),by rw[hNI.done];rfl,by rw[hNI.done],k.gu.jC.aF.aR.first.turn⟩
end
def okN (l:List aG) (i:Nat):Prop:=(∀(k:Nat) x,k<i->l[k]? =some x->x.w≠0)/\∀(k:Nat) x y,k+1<i->l[k]? =some x->l[k+1]? =some y->jK x.row y.row<0
def XY (l:List aG):okN l 0:=⟨λ_ _ h=>zas h (zdw _),λ_ _ _ h=>zas h (zdw _)⟩
def Gs (h:okN l i) (ho:l[i]? =some o) (h0:o.w≠0) (h1:i=0\/∃p,l[i-1]? =some p/\jK p.row o.row<0):okN l (i+1):=by
 refine⟨λk x hk hx=>?_,λk x y hk hx hy=>?_⟩
 .by_cases e:k=i
  .subst e;rw[ho]at hx;injection hx with hx;rw[<-hx];exact h0
  exact h.1 k x oM hx
 by_cases e:k+1=i
 .rcases h1 with h1 | ⟨p,hp,aX⟩
  .omega
  rw[e,ho]at hy;injection hy with hy
  rw[<-e,zgd,hx]at hp;injection hp with hp
  rw[<-hy,hp];exact aX
 exact h.2 k x y oM hx hy
def acy (h:okN l i) (hi:l.length<=i):iy l=true:=
 yP.2 ⟨λx hx=>by
  obtain⟨k,hk,e⟩:=zfk hx;exact h.1 k x oM (by rw[zab hk,e]),λk x y hx hy=>h.2 k x y (by have:=fI hy;omega) hx hy⟩
section
variable {w:Wd}
def Ru (hl:dS w v l) (hn:l.length<=1000):Rk Tryz.prog 55 [v] w (I (if iy l=true then 0 else 2)):=by
 obtain⟨r,hr,eP⟩:=hl;have hr0:=hr;obtain⟨A,m,rfl,⟨hm,nX⟩,hA⟩:=hr;have yL:=eP.len;have H:=Sep.aH w;refine dh Tryz.func55 ?_;refine V4 ?_;refine aI (λi:Nat=>[(0,.slice A r.length m),(5,.slice A r.length m),(6,I r.length),(7,I i)]) (λi w'=>(i<=r.length/\okN l i)/\Mw.Sep w noB [] w') (λi _=>r.length-i) 0 tR ⟨⟨zai _,XY l⟩,H⟩ (λi τ _ hI=>?_);obtain⟨⟨hi,fB⟩,k⟩:=hI;refine Lp ?_;refine Cz (λS=>?_) (λS=>?_)
 .have aX:i<r.length:=oM
  have Fw:i<l.length:=oM;obtain⟨o,ho⟩:=get_some Fw;obtain⟨vo,zJ,DU⟩:=eP.get ho;obtain⟨Ao,co,rfl,_,_⟩:=DU;refine Az (λb4 _ _ _=>?_);refine Am ?_;refine Tz (λ_ S=>?_);refine Sz (λa=>?_) (λa=>?_)
  .refine V2 ?_
   have hb: ¬iy l=true:=λh=>by
    have h2:=yP.1 h
    first
    | exact h2.1 o (zag ho) oM
    | (have h3:=h2.2 (i-1) p o G9 (by rw[zge oM];exact ho);omega)
   exact⟨by rw[zaa hb];rfl,S.kept⟩
  refine Sz (λa=>?_) (λa=>?_)
  .refine V2 ?_
   obtain⟨p,G9⟩:=get_some (l:=l) (show i-1<l.length from oM);refine Vc ((i-1:Nat):Int) ?_;refine Kz (ND (hr0.keep S.kept) (eP.keep S.kept) G9 ho) (λ_ a _=>?_);refine Cz (λb=>?_) (λb=>?_)
   .refine V1 ?_
    have hb: ¬iy l=true:=λh=>by
     have h2:=yP.1 h
     first
     | exact h2.1 o (zag ho) oM
     | (have h3:=h2.2 (i-1) p o G9 (by rw[zge oM];exact ho);omega)
    exact⟨by rw[zaa hb];rfl,a.kept⟩
   refine V0 ?_;refine Vc ((i+1:Nat):Int) ?_;refine V1 ?_;exact aj (i+1) tR ⟨⟨oM,Gs fB ho oM (by first | exact .inl oM | exact .inr ⟨p,G9,oM⟩)⟩,a.bI⟩ oM
  refine V2 ?_;refine Vc ((i+1:Nat):Int) ?_;refine V1 ?_;exact aj (i+1) tR ⟨⟨oM,Gs fB ho oM (by first | exact .inl oM | exact .inr ⟨p,G9,oM⟩)⟩,S.bI⟩ oM
 have q9:l.length<=i:=oM;refine V1 ?_;exact⟨by rw[zac (acy fB q9)];rfl,k.kept⟩
def uM {a b:List aC} {va vb:Value} (ha:aJ w va ah 3 a) (hb:aJ w vb ah 3 b):Rk prog 48 [va,vb] w (.bool (decide (a=b))):=by
  obtain⟨A,m,rfl,⟨hm,nX⟩,hA⟩:=ha;obtain⟨B,m2,rfl,⟨CU,asY⟩,hB⟩:=hb;have H:=Sep.aH w;refine bU func48 ?_;refine Cz (λVm=>?_) (λVm=>?_)
  . have iJ: ¬a=b:=λe=>Vm (by rw[e])
    refine V1 ?_;exact⟨by rw[zal iJ];rfl,H.kept⟩
  have hlen:a.length=b.length:=oM;refine V1 ?_;refine aI (λi:Nat=>[(0,.slice A a.length m),(1,.slice B b.length m2),(5,I i)]) (λi w'=>(i<=a.length/\a.take i=b.take i)/\Sep w noB [] w') (λi _=>a.length-i) 0 tR ⟨⟨zai _,rfl⟩,H⟩ (λi τ wa hI=>?_);obtain⟨⟨hi,heq⟩,Ha⟩:=hI;refine Lp ?_;refine Cz (λIe=>?_) (λIe=>?_)
  . have aX:i<a.length:=oM
    have Fg:i<b.length:=oM;obtain⟨x,hx⟩:=get_some aX;obtain⟨y,hy⟩:=get_some Fg;refine Dz (λSa wb Hb=>?_);refine V2 ?_;refine GS (Gn rfl (λ_=>Gives.fA rfl rfl hA aX) ?_);refine GS (Gt rfl (Gives.iA rfl Hb hA hx) ?_);refine V2 ?_;refine GS (Gn rfl (λ_=>Gives.fA rfl rfl hB Fg) ?_);refine GS (Gt rfl (Gives.iA rfl Hb hB hy) ?_);refine GS (Gn rfl (λ_=>Gives.akK (enc:=ah) x y rfl rfl) ?_);refine fO Sa kR ?_;refine Cz (λIf=>?_) (λIf=>?_)
    . have iJ: ¬a=b:=λe=>by
        subst e;rw[hx]at hy;injection hy with hy
        exact If hy
      refine V1 ?_;exact⟨by rw[zal iJ];rfl,Hb.kept⟩
    have hxy:x=y:=Decidable.of_not_not If;have Qk:a.take (i+1)=b.take (i+1):=by rw[zat,zat,hx,hy,heq,hxy]
    refine V1 ?_;refine Vc ((i+1:Nat):Int) ?_;refine V1 ?_;exact aj (i+1) tR ⟨⟨oM,Qk⟩,Hb⟩ oM
  have LU:a=b:=by
    have h1:=heq;rw[zaj oM,zaj oM]at h1;exact h1
  refine V1 ?_;exact⟨by rw[zap LU];rfl,Ha.kept⟩
def mM {l:List aC} (hl:aJ w v ah 3 l) (mU:l.length<=1000):aQ prog 58 [v] w λv' w'=>∃x,v'=x/\True/\Turn noB (aU 47 3 ah x l) w w':=by
 obtain⟨A,m,rfl,⟨hm,nX⟩,hA⟩:=hl;have H:=Sep.aH w;refine dh func58 ?_;refine V4 ?_;have k:=Sep.iW H 47 3 ah;refine ni k At0 (hA.keep H.kept) (by unfold maxLen;simp;omega) (by simp;omega) (cells_one (λ_=>rfl) _) (h:=?_);intro v2 S k;refine V1 ?_;exact⟨_,rfl,trivial,by rw[zbw]at k;exact k.turn⟩
end
end
open Go.RowKit
variable {P:Program} {ρ:Od->Value} {ty:Td} {w:Wd}
def Gives.zf {T e m size:Nat} [ht:zM P T m e] [hc:Cells P e size bytes] {z:Value} [hz:Zero P T z] {zs:LV} {parts:List (Nat×Od)} {out:LV} (Es:z.cells=zs.toArray) (h:Fills (λi:Nat=>some (i*size,size)) ρ parts zs out):Gives P ρ (.build T parts.toArray) ty w (.agg out.toArray) w:=λ_ _ _ _=>by
 obtain⟨i,hi,qE⟩:=zbc.1 hc.size;simp only[Prod.mk.injEq]at qE;have hf:=GJ h;simp only[execOp,Instr.build,zbj,hz.run,zan,run_underlying ht.und,Es,zce,sizeOf,typeInfo,run_program,hi,zbl,qE.1,hf]
section
attribute [local irreducible] FW FL FG FGn jJ jO fC lJ Qfn Gives
def pwL (l:List aG) (r:List aC):List (Int×Int):=(l.filter λx=>decide (x.row=r)).map λx=>(x.w,1)
def ahw (r:List aC): ∀l:List aG,rR (pwL l r)=wtL l r
 | []=>rfl
 | x::l=>by
  have ih:=ahw r l;unfold pwL at ih ⊢;rw[wtL,zeh]
  by_cases h:x.row=r
  .rw[zac (zap h),zac h,zav,rR,ih];show x.w*1+_=_;omega
  rw[zaa (by simpa using h),zaa h,ih];omega
def ako {r:List aC} (h:l[i]? =some o):pwL (l.take (i+1)) r=pwL (l.take i) r++(if o.row=r then [(o.w,1)]else []):=by
 unfold pwL;rw[zat,h,zfr,zak]
 congr 1
 by_cases h2:o.row=r
 .rw[zac h2];simp[h2]
 rw[zaa h2];simp[h2]
def ahx (l:List aG) (r:List aC):(pwL l r).length<=l.length:=by
 unfold pwL;rw[zae];exact zfs _ _
def tK (f:Int) (l:List aG):List aG×Int:=if iy l=true then(if(l.all λx=>aY (f*x.w))=true then((l.map λx=>(⟨x.row,f*x.w⟩:aG)).filter λx=>decide (x.w≠0),0)else([],50))else([],2)
section
variable {w:Wd}
def Rv {vr:Value} {r:List aC} (hl:dS w v l) (hr:aJ w vr ah 3 r) (hn:l.length<=1000) (hf: ∀o∈l,fits o.w):
    Rk Tryz.prog 80 [v,vr] w (.tuple #[I (if aY (wtL l r)=true then wtL l r else 0),I (if aY (wtL l r)=true then 0 else 50)]):=by
  obtain⟨z,hz,eP⟩:=hl;obtain⟨A,m,rfl,⟨hm,nX⟩,hA⟩:=hz;have hzl:=eP.len;have H:=Sep.aH w;refine bU Tryz.func80 ?_;refine V4 ?_;refine aI (λx:(OA×Nat)×Nat=>[(0,.slice A z.length m),(1,vr),(6,.slice x.1.1 (pwL (l.take x.2) r).length x.1.2),(7,I x.2)]) (λx w'=>x.2<=z.length/\Sep w noB [aU 211 2 l7 (.slice x.1.1 (pwL (l.take x.2) r).length x.1.2) (pwL (l.take x.2) r)] w') (λx _=>z.length-x.2) ((none,0),0) tR ⟨zai _,Sep.iW H 211 2 l7⟩ (λx τ _ hI=>?_);obtain⟨⟨R,cR⟩,i⟩:=x;obtain⟨hi,k⟩:=hI;dsimp only at hi k;refine Lp ?_;refine Cz (λS=>?_) (λS=>?_)
  . have aX:i<z.length:=oM
    obtain⟨o,ho⟩:=get_some (l:=l) (show i<l.length from oM);obtain⟨vo,zJ,DU⟩:=eP.get ho;have nH:=ako (r:=r) ho;have Ql:=ahx (l.take i) r;rw[zah]at Ql;refine Kz (uM (DU.keep k.kept) (hr.keep k.kept)) (λ_ S _=>?_);refine Cz (λa=>?_) (λa=>?_)
    . rw[zac a]at nH
      refine V6 ?_;refine Vv (Gives.zf (zs:=[I 0,I 0]) (out:=l7 (o.w,1)) rfl (Fills.one rfl rfl rfl sM rfl (Fills.one rfl rfl rfl sM rfl Fills.nil))) (Bs S ([(o.w,(1:Int))].flatMap l7) (λbs _ b _=>?_));refine dJ b (news:=[(o.w,(1:Int))]) At0 (by unfold maxLen;simp only[zaf];omega) (by simp only[zaf];omega) (cells_one (λ_=>rfl) _) (h:=?_);intro v6 b b;rw[<-nH]at b;obtain⟨R2,cR2,rfl,_,_⟩:=Sep.bH b At0;refine V2 ?_;refine Vc ((i+1:Nat):Int) ?_;refine V1 ?_;exact aj ((R2,cR2),i+1) tR ⟨dO,b⟩ dO
    rw[zaa a,zbt]at nH;refine V1 ?_;refine Vc ((i+1:Nat):Int) ?_;refine V1 ?_;exact aj ((R,cR),i+1) ⟨rfl,rfl,by dsimp only;rw[nH];rfl,rfl,trivial⟩ ⟨dO,by dsimp only;rw[nH];exact S⟩ dO
  have jG:l.take i=l:=zaj oM;refine V1 ?_;have Pw:=jq k At0
  have Tp: ∀x∈pwL (l.take i) r,fits x.1/\fits x.2:=λx hx=>by
    obtain⟨o,ho,rfl⟩:=zar.1 hx;exact⟨hf o (zcg (zcf.1 ho).1),by show -9223372036854775808<=(1:Int)/\(1:Int)<=9223372036854775807;decide⟩
  have hpn:=ahx (l.take i) r;rw[zah]at hpn;refine Kz (JJ Pw Tp oM) (λ_ b _=>?_);rw[ahw,jG];refine V4 ?_;exact⟨rfl,b.kept⟩
def JM (hl:dS w v l) (hn:l.length<=1000):Rk Tryz.prog 82 [v] w (I (if iy l=true then 0 else 2)):=by
 obtain⟨r,hr,eP⟩:=hl;obtain⟨A,m,rfl,⟨hm,nX⟩,hA⟩:=hr;have yL:=eP.len;have H:=Sep.aH w;refine dh Tryz.func82 ?_;refine V2 ?_;refine aI (λi:Nat=>[(0,.slice A r.length m),(3,I i)]) (λi w'=>(i<=r.length/\okN l i)/\Mw.Sep w noB [] w') (λi _=>r.length-i) 0 tR ⟨⟨zai _,XY l⟩,H⟩ (λi τ _ hI=>?_);obtain⟨⟨hi,fB⟩,k⟩:=hI;refine Lp ?_;refine Cz (λS=>?_) (λS=>?_)
 .have aX:i<r.length:=oM
  have Fw:i<l.length:=oM;obtain⟨o,ho⟩:=get_some Fw;obtain⟨vo,zJ,DU⟩:=eP.get ho;refine Dz (λS _ a=>?_);refine V2 ?_;refine GS (Gn rfl (λ_=>Gives.fA rfl rfl hA aX) ?_);refine V1 ?_;refine GS (Gt rfl (Gives.dG (f:=1) rfl a hA zJ rfl) ?_);refine V2 ?_;refine fK (t:=16) rfl (λb=>?_) (λb=>?_)
  .refine V2 ?_
   have hb: ¬iy l=true:=λh=>by
    have h2:=yP.1 h
    first
    | exact h2.1 o (zag ho) oM
    | (have h3:=h2.2 (i-1) p o G9 (by rw[zge oM];exact ho);omega)
   exact⟨by rw[zaa hb];rfl,a.kept⟩
  refine V3 ?_;refine fK (t:=19) rfl (λb=>?_) (λb=>?_)
  .obtain⟨p,G9⟩:=get_some (l:=l) (show i-1<l.length from oM)
   obtain⟨vp,hvp,Eu⟩:=eP.get G9;refine Gm S 10 ?_;refine V1 ?_;refine Gc S 12 ((i-1:Nat):Int) ?_;refine GS (Gn rfl (λ_=>Gives.fA (i:=i-1) rfl rfl hA oM) ?_);refine V1 ?_;refine GS (Gt rfl (Gives.dG (f:=0) rfl a hA hvp rfl) ?_);refine V2 ?_;refine GS (Gn rfl (λ_=>Gives.fA rfl rfl hA aX) ?_);refine V1 ?_;refine GS (Gt rfl (Gives.dG (f:=0) rfl a hA zJ rfl) ?_);refine dA S 21 _ a (KT (Eu.keep a.kept) (DU.keep a.kept)) (h:=λ_ b _=>⟨sT,?_⟩);refine O3 ?_;refine fO S kR ?_;refine Cz (λS=>?_) (λS=>?_)
   .refine V1 ?_
    have hb: ¬iy l=true:=λh=>by
     have h2:=yP.1 h
     first
     | exact h2.1 o (zag ho) oM
     | (have h3:=h2.2 (i-1) p o G9 (by rw[zge oM];exact ho);omega)
    exact⟨by rw[zaa hb];rfl,b.kept⟩
   refine V1 ?_;refine Vc ((i+1:Nat):Int) ?_;refine V1 ?_;exact aj (i+1) tR ⟨⟨oM,Gs fB ho oM (by first | exact .inl oM | exact .inr ⟨p,G9,oM⟩)⟩,b⟩ oM
  refine V3 ?_;refine Vc ((i+1:Nat):Int) ?_;refine V1 ?_;exact aj (i+1) tR ⟨⟨oM,Gs fB ho oM (by first | exact .inl oM | exact .inr ⟨p,G9,oM⟩)⟩,a⟩ oM
 have q9:l.length<=i:=oM;refine V1 ?_;exact⟨by rw[zac (acy fB q9)];rfl,k.kept⟩
end
end
def Gives.XZ {t e:Td} [h:dn P t e] {m c:Nat} (hx:ρ x=.slice A m c):Gives P ρ (.call {callee:=.builtin .cap,args:= #[x],argTypes:= #[t]}) ty w (.int .i64 c) w:=λ_ _ _ _=>by
 simp[execOp,resolve,invoke,builtin,hx,Builtin.cap_,run_underlying h.und,goInt]
section
attribute [local irreducible] FW FL FG FGn jJ jO fC lJ Qfn Gives
def Uv {m:List aG} {a b:aG} (h:l.take i=m.take i) (ha:l[i]? =some a) (hb:m[i]? =some b):(l.take (i+1)=m.take (i+1))↔a=b:=by
 rw[zat,zat,ha,hb,h];simp
def Mg {a b:aG}:(a.w=b.w/\a.row=b.row)↔a=b:=⟨λh=>aG.ext' h.2 h.1,λh=>by rw[h];exact⟨rfl,rfl⟩⟩
instance:DecidableEq aG:=λa b=>decidable_of_iff (a.w=b.w/\a.row=b.row) Mg
abbrev Uw:=OA×Nat×List (Value×Int)
def arb (x:Uw):Value:=.slice x.1 x.2.2.length x.2.1
def akp (x:Uw):LV:=[arb x]
instance:jd akp 1:=⟨λ_=>rfl⟩
def Rw {l:List Uw} {x:Uw} (h:l[i]? =some x):(l.take (i+1)).flatMap (·.2.2)=(l.take i).flatMap (·.2.2)++x.2.2:=by
 rw[zat,h,zbv];simp
def acz {l:List Uw} (i:Nat):((l.take i).flatMap (·.2.2)).length<=(l.flatMap (·.2.2)).length:=by
 conv=>rhs;rw[<-zbs i l,zbv,zad]
 omega
def rY {r:List (Value×Int)} {l:List aG} (h:gN w r l): ∀u∈r.flatMap aA,u.oneCell'=true:=by
 intro u hu;obtain⟨x,hx,hu⟩:=zcc.1 hu;obtain⟨i,hi,e⟩:=zfk hx;have hl:=h.len;obtain⟨A,c,hA,_,_⟩:=h.2 i x l[i] (by rw[zab hi,e]) (zab oM);have hu:u=x.1\/u=I x.2:=by simpa[aA]using hu
 rcases hu with e | e
 .rw[e,hA];rfl
 rw[e];rfl
section
variable {w:Wd}
def ahy (n:Nat) (hn:n<=100000):aQ Tryz.prog 156 [.slice none 0 0,I n] w λu w'=>∃x:Value,u=x/\True/\Turn noB (aU 60 2 aA x []) w w':=by
 have H:=Sep.aH w;refine bU Tryz.func156 ?_;refine Cz (λk=>?_) (λk=>?_)
 .omega
 refine V2 ?_;refine Vv (Gives.XZ rfl) (V2 ?_);refine Vc 0 ?_;refine Vc (n:Int) ?_;refine Cz (λk=>?_) (λk=>?_)
 .refine V2 ?_
  refine Vv (Gives.XZ rfl) (Vv (Gives.sliceTo (h:=0) rfl rfl oM) ?_);refine Mv ?_;refine akX H (m:=n) rfl rfl oM (h63:=by unfold maxLen;omega) (hbytes:=by omega) (h:=?_);intro g c k hgc hcm k;refine V2 ?_;refine Vv (Gives.sliceTo (h:=0) rfl rfl oM) (V3 ?_);exact⟨_,rfl,trivial,k.first.turn⟩
 refine V2 ?_;exact⟨_,rfl,trivial,(Sep.gy H 60 2).first.turn⟩
end
def aeG (f:Int) (l:List aG):List aG:=(l.map λx=>(⟨x.row,f*x.w⟩:aG)).filter λx=>decide (x.w≠0)
def ahz {f:Int} (h:l[i]? =some o):aeG f (l.take (i+1))=aeG f (l.take i)++(if f*o.w≠0 then [⟨o.row,f*o.w⟩]else []):=by
 unfold aeG;rw[zat,h,zak,zfr]
 congr 1
 by_cases h2:f*o.w≠0
 .rw[zac h2];simp[h2]
 rw[zaa h2];simp[h2]
def aeH {f:Int} (hc:iy l=true) (h:l[i]? =some o) (hb: ¬aY (f*o.w)=true):tK f l=([],50):=by
 unfold tK;rw[zac hc,zaa λha=>hb (zba.1 ha o (zag h))]
def aax {f:Int} (hc:iy l=true) (h: ∀(j:Nat) o,l[j]? =some o->aY (f*o.w)=true):tK f l=(aeG f l,0):=by
 unfold tK
 rw[zac hc,zac (zba.2 λo ho=>by
  obtain⟨j,hj,e⟩:=zfk ho;exact h j o (by rw[zab hj,e]))]
 rfl
section
variable {w:Wd}
theorem ahA (f:Int) (hff:fits f) (hl:dS w v l) (hn:l.length<=1000) (hf: ∀o∈l,fits o.w) (mU: ∀o∈l,o.row.length<=1000):
    aQ prog 81 [I f,v] w λu w'=>∃x:Value×List Held,u=.tuple #[x.1,I (tK f l).2]/\x.2.map (·.2)=(tK f l).1/\Turn noB (dz x.1 x.2) w w':=by
  have Jb:=hl;obtain⟨r,hr,eP⟩:=hl;obtain⟨A,m,rfl,⟨hm,nX⟩,hA⟩:=hr;have yL:=eP.len;have H:=Sep.aH w;refine bU func81 ?_;refine Kz (JM (Jb.keep H.kept) hn) (λw5 H5 k4=>?_);refine Vn ?_;refine Cz (λVm=>?_) (λVm=>?_)
  . have dN: ¬iy l=true:=λh=>Vm (by rw[zac h])
    refine V2 ?_;exact⟨(.slice none 0 0,[]),by unfold tK;rw[zaa dN];rfl,by unfold tK;rw[zaa dN];rfl,(Sep.gy (bJ H5) 60 2).aR.first.turn⟩
  have dN:iy l=true:=Decidable.of_not_not λh=>by
    have h1:=Vm;rw[zaa h]at h1;exact h1 dC
  refine V2 ?_;refine aI (λx:(OA×Nat)×List Held×Nat=>[(0,I f),(1,.slice A r.length m),(6,.slice x.1.1 (aP x.2.1).length x.1.2),(7,I x.2.2)]) (λx w'=>(x.2.2<=r.length/\x.2.1.map (·.2)=aeG f (l.take x.2.2)/\x.2.1.length<=x.2.2/\∀(j:Nat) o,j<x.2.2->l[j]? =some o->aY (f*o.w)=true)/\Mw.Sep w noB [aU 60 2 aA (.slice x.1.1 (aP x.2.1).length x.1.2) (aP x.2.1),vZ 47 3 ah (·.1) (λb:Held=>b.2.row) x.2.1] w') (λx _=>r.length-x.2.2) ((none,0),[],0) tR ⟨⟨zai _,rfl,zbi _,λj o hj=>zas hj (zdw _)⟩,Sep.gy (bJ H5) 60 2⟩ (λx τ wa hI=>?_);obtain⟨⟨R,cR⟩,L,i⟩:=x;obtain⟨⟨hi,hL,hLi,hfi⟩,Ha⟩:=hI;dsimp only at hi hL hLi hfi Ha;refine Lp ?_;refine Cz (λIe=>?_) (λIe=>?_)
  . have aX:i<r.length:=oM
    obtain⟨o,ho⟩:=get_some (l:=l) (show i<l.length from oM);have hom:=zag ho;obtain⟨vo,zJ,DU⟩:=eP.get ho;have nH:=ahz (f:=f) ho;have hLr:(aP L).length=L.length:=zae _;refine Kz (XM f o.w hff (hf o hom)) (λwb Hb ka=>?_);obtain⟨n,tX⟩: ∃n,n=(if aY (f*o.w)=true then f*o.w else 0):=⟨_,rfl⟩;obtain⟨er,her⟩: ∃n:Int,n=(if aY (f*o.w)=true then 0 else 50):=⟨_,rfl⟩;rw[<-tX,<-her];refine Cz (λIf=>?_) (λIf=>?_)
    . have Lh: ¬aY (f*o.w)=true:=λh=>If (by rw[her,zac h])
      have jV:=aeH dN ho Lh;have ajk:er=50:=by rw[her,zaa Lh]
      refine V3 ?_;exact⟨(.slice none 0 0,[]),by rw[jV,ajk];rfl,by rw[jV];rfl,(Sep.gy (bJ Hb) 60 2).aR.first.turn⟩
    have Lh:aY (f*o.w)=true:=Decidable.of_not_not λh=>by
      have h1:=If;rw[her,zaa h]at h1;exact h1 dC
    have Ms:n=f*o.w:=by rw[tX,zac Lh]
    have ap2: ∀(j:Nat) p,j<i+1->l[j]? =some p->aY (f*p.w)=true:=λj p hj hp=>by
      by_cases e:j=i
      . subst e;rw[ho]at hp;injection hp with hp;rw[<-hp];exact Lh
      exact hfi j p oM hp
    refine Cz (λIg=>?_) (λIg=>?_)
    . rw[zac (by rw[<-Ms];exact Ig)]at nH
      refine Nz (mM (DU.keep Hb.kept) (mU o hom)) (λy wc _ Hc kb=>?_);obtain⟨Y,cy,rfl,_,_⟩:=Sep.bH Hc At0;refine Mv ?_;refine Vb (aA (.slice Y o.row.length cy,n)) ?_;refine Bs Hc ([(Value.slice Y o.row.length cy,n)].flatMap aA) (λbs wd Hd kc=>?_);refine dJ Hd (news:=[(Value.slice Y o.row.length cy,n)]) At1 (by unfold maxLen;simp only[zaf];omega) (by simp only[zaf];omega) (λu hu=>zba.1 (show([(Value.slice Y o.row.length cy,n)].flatMap aA).all Value.oneCell'=true from rfl) u hu) (h:=?_);intro v9 we He;obtain⟨R2,cR2,rfl,_,_⟩:=Sep.bH He At1;have zK:=(iF (x:=.slice Y o.row.length cy) (o:=⟨o.row,n⟩) (He.aO.aF)).aF
      have CV:aP L++[(Value.slice Y o.row.length cy,n)]=aP (L++[(Value.slice Y o.row.length cy,(⟨o.row,n⟩:aG))]):=by
        unfold aP;rw[zak];rfl
      have CU:(L++[(Value.slice Y o.row.length cy,(⟨o.row,n⟩:aG))]).map (·.2)=aeG f (l.take (i+1)):=by rw[zak,hL,nH,Ms];rfl
      have ajj:(L++[(Value.slice Y o.row.length cy,(⟨o.row,n⟩:aG))]).length=L.length+1:=by rw[zad];rfl
      rw[CV]at zK ⊢;clear CV
      generalize L++[(Value.slice Y o.row.length cy,(⟨o.row,n⟩:aG))]=L2 at zK CU ajj |-
      refine V2 ?_;refine Vc ((i+1:Nat):Int) ?_;refine V1 ?_;exact aj ((R2,cR2),L2,i+1) tR ⟨⟨dO,CU,dO,ap2⟩,zK⟩ dO
    rw[zaa (by rw[<-Ms];exact Ig),zbt]at nH;refine V1 ?_;refine Vc ((i+1:Nat):Int) ?_;refine V1 ?_;exact aj ((R,cR),L,i+1) tR ⟨⟨dO,by dsimp only;rw[nH];exact hL,dO,ap2⟩,Hb⟩ dO
  have jG:l.take i=l:=zaj oM;have CW:=aax (f:=f) dN λj o ho=>hfi j o (by have:=fI ho;omega) ho;refine V3 ?_;exact⟨(_,L),by rw[CW];rfl,by rw[CW];dsimp only;rw[hL,jG],Ha.aR.turn⟩
def amV (hl:dS w v l) (hn:l.length<=1000) (hf: ∀o∈l,fits o.w) (mU: ∀o∈l,o.row.length<=1000):
    aQ prog 46 [v] w λu w'=>∃x:Value×List Held,u=.tuple #[x.1,I (tK (-1) l).2]/\x.2.map (·.2)=(tK (-1) l).1/\Turn noB (dz x.1 x.2) w w':=by
  have H:=Sep.aH w;refine dh func46 ?_;refine Nz (ahA (-1) (by show -9223372036854775808<=(-1:Int)/\(-1:Int)<=9223372036854775807;decide) (hl.keep H.kept) hn hf mU) (λx _ hx k _=>?_);refine V4 ?_;exact⟨x,rfl,hx,k.turn⟩
end
def uF (a b:List aG):List aG×Int:=if iy a=true/\iy b=true then ajN a b else([],2)
def acA {a b:List aG} (ha:isZ a) (hb:isZ b):uF a b=ajN a b:=zac ⟨C9 ha,C9 hb⟩
section
variable {w:Wd}
def aeI {L:List Uw} (hL:aJ w v akp 1 L) (hR: ∀x∈L,Mw.Rd w x.1 aA 2 x.2.2) (h1: ∀x∈L,∀u∈x.2.2.flatMap aA,u.oneCell'=true) (hn:(L.flatMap (·.2.2)).length<=5000) (hLn:L.length<=1000):
    aQ prog 97 [v] w λu w'=>∃x:Value,u=x/\True/\Turn noB (aU 60 2 aA x (L.flatMap (·.2.2))) w w':=by
  obtain⟨A,c,rfl,⟨hc,hc'⟩,hA⟩:=hL;have H:=Sep.aH w;refine dh func97 ?_;refine V5 ?_;refine aI (λi:Nat=>[(0,.slice A L.length c),(3,I ((L.take i).flatMap (·.2.2)).length),(9,.slice A L.length c),(10,I L.length),(11,I i)]) (λi w'=>i<=L.length/\Mw.Sep w noB [] w') (λi _=>L.length-i) 0 tR ⟨zai _,H⟩ (λi τ _ hI=>?_);obtain⟨hi,k⟩:=hI;refine Lp ?_;refine Cz (λS=>?_) (λS=>?_)
  . have aX:i<L.length:=oM
    obtain⟨x,hx⟩:=get_some aX;obtain⟨X,cx,rx⟩:=x;have Px:=Rw hx;have rW:=acz (l:=L) (i+1);rw[Px,zad]at rW;dsimp only at rW;refine V0 ?_;refine Vv (Gives.fA rfl rfl hA aX) (Vv (Gives.dG (v:=.slice X rx.length cx) (f:=0) rfl k hA hx rfl) ?_);refine V4 ?_;refine Vc ((((L.take i).flatMap (·.2.2)).length+rx.length:Nat):Int) ?_;refine Cz (λS=>?_) (λS=>?_)
    . omega
    refine V0 ?_;refine Vc ((i+1:Nat):Int) ?_;refine V1 ?_;exact aj (i+1) ⟨rfl,by rw[Px,zad];rfl,rfl,rfl,rfl,trivial⟩ ⟨oM,k⟩ oM
  have jG:i=L.length:=oM;rw[jG,zbq];refine Nz (ahy (L.flatMap (·.2.2)).length oM) (λg _ _ S _=>?_);obtain⟨G,cG,rfl,_,_⟩:=Sep.bH S At0;refine V4 ?_;refine aI (λx:(OA×Nat)×Nat=>[(0,.slice A L.length c),(6,.slice x.1.1 ((L.take x.2).flatMap (·.2.2)).length x.1.2),(25,.slice A L.length c),(26,I L.length),(27,I x.2)]) (λx w'=>x.2<=L.length/\Mw.Sep w noB [aU 60 2 aA (.slice x.1.1 ((L.take x.2).flatMap (·.2.2)).length x.1.2) ((L.take x.2).flatMap (·.2.2))] w') (λx _=>L.length-x.2) ((G,cG),0) tR ⟨zai _,S⟩ (λx τ _ hI=>?_);obtain⟨⟨R,cR⟩,i⟩:=x;obtain⟨hi,S⟩:=hI;dsimp only at hi S;refine Lp ?_;refine Cz (λk=>?_) (λk=>?_)
  . have aX:i<L.length:=oM
    obtain⟨x,hx⟩:=get_some aX;obtain⟨X,cx,rx⟩:=x;have Px:=Rw hx;have rW:=acz (l:=L) (i+1);rw[Px,zad]at rW;dsimp only at rW Px;have hRx:=hR _ (zag hx);have h1x:=h1 _ (zag hx);dsimp only at hRx h1x;refine V0 ?_;refine Vv (Gives.fA rfl rfl hA aX) (Vv (Gives.dG (v:=.slice X rx.length cx) (f:=0) rfl S hA hx rfl) ?_);refine V3 ?_;refine ni S At0 (hRx.keep S.kept) (by unfold maxLen;omega) oM h1x (h:=?_);intro v9 k k;rw[<-Px]at k;obtain⟨R2,cR2,rfl,_,_⟩:=Sep.bH k At0;refine V1 ?_;refine Vc ((i+1:Nat):Int) ?_;refine V1 ?_;exact aj ((R2,cR2),i+1) tR ⟨dO,k⟩ dO
  have jG:i=L.length:=oM;rw[jG,zbq]at S;refine V2 ?_;exact⟨.slice R (L.flatMap (·.2.2)).length cR,by rw[jG,zbq];rfl,trivial,S.turn⟩
def aeJ {a b:List aG} {va vb:Value} (ha:dS w va a) (hb:dS w vb b) (VE:a.length<=500) (hbl:b.length<=500) (haf: ∀o∈a,fits o.w) (hbf: ∀o∈b,fits o.w) (har: ∀o∈a,o.row.length<=1000) (hbr: ∀o∈b,o.row.length<=1000):
    aQ prog 54 [va,vb] w λu w'=>∃x:Value×List Held,u=.tuple #[x.1,I (uF a b).2]/\x.2.map (·.2)=(uF a b).1/\Turn noB (dz x.1 x.2) w w':=by
  have H:=Sep.aH w;have ha0:=ha;have Et:=hb;obtain⟨r,hr,eP⟩:=ha;obtain⟨s,hs,Qq⟩:=hb;have hr0:=hr;have k:=hs;obtain⟨A,c,rfl,⟨hc,hc'⟩,hA⟩:=hr;obtain⟨B,d,rfl,⟨hd,hd'⟩,hB⟩:=hs;have yL:=eP.len;have YS:=Qq.len;refine bU func54 ?_;refine Kz (Ru (ha0.keep H.kept) oM) (λ_ k _=>?_);refine Sz (λS=>?_) (λS=>?_)
  . refine V3 ?_
    have hk: ¬(iy a=true/\iy b=true):=λh=>by
      have h1:=h.1;have h2:=h.2;simp[h1,h2]at *
    exact⟨(.slice none 0 0,[]),by unfold uF;rw[zaa hk];rfl,by unfold uF;rw[zaa hk];rfl,(Sep.gy (bJ k) 60 2).aR.first.turn⟩
  refine Kz (Ru (Et.keep k.kept) oM) (λ_ S _=>?_);refine Cz (λk=>?_) (λk=>?_)
  . refine V2 ?_
    have hk: ¬(iy a=true/\iy b=true):=λh=>by
      have h1:=h.1;have h2:=h.2;simp[h1,h2]at *
    exact⟨(.slice none 0 0,[]),by unfold uF;rw[zaa hk];rfl,by unfold uF;rw[zaa hk];rfl,(Sep.gy (bJ S) 60 2).aR.first.turn⟩
  refine V2 ?_;refine Bs S ([((A,c,r):Uw),(B,d,s)].flatMap akp) (λbs _ k _=>?_);have tV:=Nw (enc:=akp) (l:=[((A,c,r):Uw),(B,d,s)]) k At0 rfl (by show 2<=100000;decide);have Mr:([((A,c,r):Uw),(B,d,s)]).flatMap (·.2.2)=r++s:=sM;refine Nz (aeI tV (λx hx=>?_) (λx hx=>?_) (by rw[Mr,zad];omega) (by show 2<=1000;decide)) (λy _ _ S _=>?_)
  . rcases zbb.1 hx with e | e
    . rw[e];exact hA.keep k.kept
    rw[zaw]at e;rw[e];exact hB.keep k.kept
  . rcases zbb.1 hx with e | e
    . rw[e];exact rY eP
    rw[zaw]at e;rw[e];exact rY Qq
  rw[Mr]at S;have Pw:dS _ y (a++b):=⟨_,jq S At0,(eP.app Qq).keep S.kept⟩;refine Nz (Gr Pw (by rw[zad];omega) (λo ho=>(zbk.1 ho).elim (haf o) (hbf o)) (λo ho=>(zbk.1 ho).elim (har o) (hbr o))) (λz _ hz S _=>?_);refine V4 ?_
  have hk:iy a=true/\iy b=true:=by
    refine⟨Decidable.of_not_not λh=>?_,Decidable.of_not_not λh=>?_⟩
    . simp[h]at *
    simp[h]at *
  exact⟨z,by unfold uF;rw[zac hk];rfl,by unfold uF;rw[zac hk];exact hz,S.first.turn⟩
end
def NG (r:List aC): ∀ks:List (List aC),(yN r ks).length<=ks.length+1
 | []=>zbi _
 | k::ks=>by
  have:=NG r ks;rw[yN]
  split
  .exact zbi _
  split
  .exact Nat.le_succ _
  simp only[zaq];omega
def JN: ∀l:List aG,(lY l).length<=l.length
 | []=>zbi _
 | x::l=>by
  have h1:=JN l;have h2:=NG x.row (lY l);rw[lY,zaq];omega
def Gx (l:List aG):(cO l).1.length<=l.length:=by
 unfold cO
 split
 .unfold Jj
  rw[zae];exact zck (zfs _ _) (JN l)
 exact zai _
def JO (h:o∈(cO l).1): ∃x∈l,x.row=o.row:=by
 unfold cO at h
 split at h
 .exact su.1 (Jl.1 h).1
 exact zas h zam
def NH (T m:List aG):(List aG×Int)×List aG:=
 if(cO m).2≠0 then(([],(cO m).2),T)else if(uF T (cO m).1).2≠0 then(([],(uF T (cO m).1).2),T)else(((cO m).1,0),(uF T (cO m).1).1)
section
variable {w:Wd} {F:NP}
def X3 {bp:Nat} {tv:Value} {T m:List aG} (hp:(star (blk bp [tv] 75) (BM tv T)).ok F w) (hm: ∀w1,Kept F w w1->dS w1 v m) (hTl:T.length<=500) (Jc:m.length<=500) (hTf: ∀o∈T,fits o.w) (hmf: ∀o∈m,fits o.w) (hTr: ∀o∈T,o.row.length<=1000) (hmr: ∀o∈m,o.row.length<=1000):
    aQ prog 384 [av bp,v] w λu w'=>∃x:(Value×List Held)×Value,u=.tuple #[x.1.1,I (NH T m).1.2]/\x.1.2.map (·.2)=(NH T m).1.1/\Turn F (star (dz x.1.1 x.1.2) (star (blk bp [x.2] 75) (BM x.2 (NH T m).2))) w w':=by
  have H:=(Sep.bW hp).bE;refine bU func384 ?_;refine Nz (Gr (hm _ H.kept) oM hmf hmr) (λx _ hx k _=>?_);obtain⟨xv,L⟩:=x;dsimp only at hx k ⊢;refine Cz (λS=>?_) (λS=>?_)
  . have lG:NH T m=(([],(cO m).2),T):=by unfold NH;rw[zac S]
    refine V3 ?_;exact⟨((.slice none 0 0,[]),tv),by rw[lG];rfl,by rw[lG];rfl,by rw[lG];exact(Sep.gy (bJ k.bI.aR) 60 2).aR.aR.turn⟩
  have zG:(cO m).2=0:=Decidable.of_not_not S;have hZ:isZ (cO m).1:=uW;have hdl:=Gx m;refine V5 ?_;have hT0:dS _ tv T:=Sep.sees k At2;have hX0:=gU k At0;rw[hx]at hX0;refine Nz (aeJ hT0 hX0 hTl oM hTf (λo ho=>by have h:=zbd (hZ.2.2 o ho);unfold fits;omega) hTr (λo ho=>by obtain⟨q,hq,e⟩:=JO ho;rw[<-e];exact hmr q hq)) (λy _ hy S _=>?_);obtain⟨yv,Ly⟩:=y;dsimp only at hy S ⊢;obtain⟨Y,cy,rfl,_,_⟩:=Sep.bH S.bE At0;refine Cz (λk=>?_) (λk=>?_)
  . have lG:NH T m=(([],(uF T (cO m).1).2),T):=by unfold NH;rw[zaa (λh=>h zG),zac k]
    refine V3 ?_;exact⟨((.slice none 0 0,[]),tv),by rw[lG];rfl,by rw[lG];rfl,by rw[lG];exact(Sep.gy (bJ S.bI.bI.aR) 60 2).aR.aR.turn⟩
  have ha0:(uF T (cO m).1).2=0:=Decidable.of_not_not k;have lG:NH T m=(((cO m).1,0),(uF T (cO m).1).1):=by unfold NH;rw[zaa (λh=>h zG),zaa k]
  refine Uz (λ_ k=>?_);refine V3 ?_;have h1:=PU k At0;rw[hy]at h1;exact⟨((xv,L),_),by rw[lG];rfl,by rw[lG];exact hx,by rw[lG];exact(h1.aO.aR.aF.aR.first.turn)⟩
def ahB (hl:dS w v l) (hn:l.length<=1000) (mU: ∀o∈l,o.row.length<=1000):aQ prog 386 [v] w λu w'=>∃x:Value×List Held,u=x.1/\x.2.map (·.2)=l/\Turn noB (dz x.1 x.2) w w':=by
 obtain⟨r,hr,eP⟩:=hl;obtain⟨A,m,rfl,⟨hm,nX⟩,hA⟩:=hr;have yL:=eP.len;have H:=Sep.aH w;refine dh func386 ?_;refine V4 ?_;refine aI (λx:(OA×Nat)×List Held×Nat=>[(2,.slice x.1.1 (aP x.2.1).length x.1.2),(5,.slice A r.length m),(6,I r.length),(7,I x.2.2)]) (λx w'=>(x.2.2<=r.length/\x.2.1.map (·.2)=l.take x.2.2)/\Mw.Sep w noB [aU 60 2 aA (.slice x.1.1 (aP x.2.1).length x.1.2) (aP x.2.1),vZ 47 3 ah (·.1) (λb:Held=>b.2.row) x.2.1] w') (λx _=>r.length-x.2.2) ((none,0),[],0) tR ⟨⟨zai _,rfl⟩,Sep.gy (bJ H) 60 2⟩ (λx τ _ hI=>?_);obtain⟨⟨R,cR⟩,L,i⟩:=x;obtain⟨⟨hi,hL⟩,k⟩:=hI;dsimp only at hi hL k;refine Lp ?_;refine Cz (λS=>?_) (λS=>?_)
 .have aX:i<r.length:=oM
  obtain⟨o,ho⟩:=get_some (l:=l) (show i<l.length from oM);have hom:=zag ho;obtain⟨vo,zJ,DU⟩:=eP.get ho;have anW:=DU;obtain⟨Vo,co,rfl,_,_⟩:=DU;have hLr:(aP L).length=L.length:=zae _
  have hLn:L.length<=i:=by
   have h1:=zay List.length hL;rw[zae,zah]at h1;omega
  refine Az (λb4 _ _ _=>?_);refine Tz (λ_ _=>?_);refine Dz (λS _ a=>?_);refine V3 ?_;refine Gp S 4 rfl rfl (λ_=>(Gives.yt rfl)) (V1 ?_);refine eB S 3 [(5,false),(4,true),(0,true)] a (qp (anW.keep a.kept) (mU o hom)) (h:=λy _ _ a _=>?_);obtain⟨Y,cy,rfl,_,_⟩:=Sep.bH a At0;refine⟨sL,?_⟩;refine Gb S 6 (aA (.slice Y o.row.length cy,o.w)) ?_;refine Gz S 7 _ a ([(Value.slice Y o.row.length cy,o.w)].flatMap aA) (h:=λbs _ a=>⟨sT,?_⟩);refine gH S 8 _ a (news:=[(Value.slice Y o.row.length cy,o.w)]) At2 (by unfold maxLen;simp only[zaf];omega) (by simp only[zaf];omega) (λu hu=>zba.1 (show([(Value.slice Y o.row.length cy,o.w)].flatMap aA).all Value.oneCell'=true from rfl) u hu) (h:=λv9 _ a=>?_);obtain⟨R2,cR2,rfl,_,_⟩:=Sep.bH a At2
  have CV:aP L++[(Value.slice Y o.row.length cy,o.w)]=aP (L++[(Value.slice Y o.row.length cy,o)]):=by
   unfold aP;rw[zak];rfl
  have CU:(L++[(Value.slice Y o.row.length cy,o)]).map (·.2)=l.take (i+1):=by rw[zak,hL,zat,ho];rfl
  refine⟨sT,?_⟩;refine tq S 9 _ (h:=⟨sT,?_⟩);refine V0 ?_;refine Vc ((i+1:Nat):Int) ?_;refine V1 ?_;have zK:=(iF (x:=.slice Y o.row.length cy) (o:=o) (a.aF.bI.aO.aF)).aF;rw[CV]at zK;exact aj ((R2,cR2),L++[(Value.slice Y o.row.length cy,o)],i+1) ⟨by rw[<-CV];rfl,rfl,rfl,rfl,trivial⟩ ⟨⟨dO,CU⟩,zK⟩ dO
 have jG:l.take i=l:=zaj oM;refine V2 ?_;exact⟨(_,L),rfl,by dsimp only;rw[hL,jG],k.aR.turn⟩
end
end
end Go.Proofs.Mw
