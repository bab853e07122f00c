/-
 Sorting by a function:the whole,walked.
-/
import Derived.Test.YtkfpleidaoaonaaGreatDoorNu1
import Derived.Test.YtkfpleidaoaonaaGreatDoorNu3
import Derived.Test.YtkfpleidaoaonaaGreatDoorNu16
import Derived.Sort.AssemblyPlain
import Derived.Sort.LotD3
import Derived.Test.YtkfpleidaoaonaaGreatDoorNu14
import Derived.Test.YtkfpleidaoaonaaGreatDoorNu13
set_option linter.unusedVariables false
set_option linter.unusedSimpArgs false
namespace Go.Proofs.YtkfpleidaoaonaaGreatDoor
open Go Go.Mw Go.Lib Go.Sort Tryz
set_option maxRecDepth 4000
attribute [local irreducible] FW FL FG FGn gu gy dh gH Qfn Gives
section
variable {α:Type} [Inhabited α] {f:α->Int} {cf:α->α->Int} {w:Wd} {F:NP} {A:OA} {n c:Nat} {d₀:Array α} {fv:Value}
theorem ajv (hO:SWO (ltC cf)): ∀(q:Nat) {a b lim n c:Nat} {A:OA} {d₀:Array α} {w:Wd} {F:NP},b-a<=q->(gM f A n c d₀).ok F w->n=d₀.size->a<=b->b<=n->n<1000000->lim<=1000->Below (ltC cf) a b d₀->rJ prog fv f cf F w->
    aN prog 156 [.slice A n c,I a,I b,I lim,fv] w λr w'=>∃d':Array α,r=.tuple #[]/\(PermIn a b d₀ d'/\SortedIn (ltC cf) a b d')/\Turn F (gM f A n c d') w w':=by
  intro q
  induction q using Nat.strongRecOn with
  | _ q ih=>
  intro a b lim n c A d₀ w F hq hp CQ Ql hb rU hlim hB0 qP;have H:=Sep.dZ hp;refine Rl func156 rfl rfl rfl rfl ?_;refine Zb2 ?_;refine aP (λx:Nat×Nat×Nat×Bool×Bool×Array α=>[(0,.slice A n c),(1,I x.1),(2,I x.2.1),(3,I x.2.2.1),(4,fv),(10,.bool x.2.2.2.1),(11,.bool x.2.2.2.2.1)]) (λx w'=>((n=x.2.2.2.2.2.size/\a<=x.1/\x.1<=x.2.1/\x.2.1<=b/\x.2.2.1<=1000)/\Below (ltC cf) x.1 x.2.1 x.2.2.2.2.2/\∀R,PermIn x.1 x.2.1 x.2.2.2.2.2 R->SortedIn (ltC cf) x.1 x.2.1 R->PermIn a b d₀ R/\SortedIn (ltC cf) a b R)/\Sep w F [gM f A n c x.2.2.2.2.2] w') (λx _=>x.2.1-x.1) (a,b,lim,true,true,d₀) tR ⟨⟨⟨CQ,zbf _,Ql,zbf _,hlim⟩,hB0,λR h1 h2=>⟨h1,h2⟩⟩,H⟩ (λx τ w4 hI=>?_);obtain⟨s,t,lm,wb,wp,d⟩:=x;obtain⟨⟨⟨hn,has,gQ,ZO,hlm⟩,hB,Wi⟩,H4⟩:=hI;dsimp only at hn has gQ ZO hlm hB Wi H4
  try simp only[dA,like,bB,bY]
  refine Zb2 ?_;refine Vc ((t-s:Nat):Int) ?_;refine Za3 ?_;refine Qn (Cp rfl (λIa=>?_) (λIa=>?_))
  . have h12:=Ia
    refine Zb4 ?_;obtain⟨F0,fZ,iK,aQ⟩:=H4.focus At0;refine aS (aal (a:=s) (b:=t) fZ hn gQ oM oM (qP.into H4.kept iK)) rfl rfl (λv' wa hv=>?_);obtain⟨rfl,arA,F1,hq,hs⟩:=hv;have Ha:=aQ _ F1 _ arA hq hs;refine Zb0 ?_;exact⟨_,rfl,Wi _ (insertionSort_holds hO d s t gQ oM).1 (insertionSort_holds hO d s t gQ oM).2,Ha.turn⟩
  have h12:=Ia;refine Za2 ?_;refine Qn (Cp rfl (λIb=>?_) (λIb=>?_))
  . have G8:=Ib
    refine Zb4 ?_;obtain⟨F0,fZ,iK,aQ⟩:=H4.focus At0;refine aS (Xv (a:=s) (b:=t) fZ hn oM oM oM (qP.into H4.kept iK)) rfl rfl (λv' wc hv=>?_);obtain⟨rfl,_,arB,F1,hq,hs⟩:=hv;have Hb:=aQ _ F1 _ arB hq hs;refine Zb0 ?_;exact⟨_,rfl,Wi _ (heapSort_holds hO d s t gQ oM).1 (heapSort_holds hO d s t gQ oM).2,Hb.turn⟩
  have G8:=Ib;refine Sk (iP (λz:Nat×Array α=>[(0,.slice A n c),(1,I s),(2,I t),(3,I z.1),(4,fv),(10,.bool wb),(11,.bool wp),(12,I (t-s:Nat))]) (λz w'=>(z.1<=1000/\PermIn s t d z.2)/\Sep w F [gM f A n c z.2] w') ?_ ?_)
  . refine Za2 ?_
    refine Qn (Cd rfl (λIc=>?_) (λIc=>?_))
    . refine Zb4 ?_
      obtain⟨F0,fZ,iK,aQ⟩:=H4.focus At0;refine aS (agq (a:=s) (b:=t) fZ hn oM oM rU) rfl rfl (λv' wd hv=>?_);obtain⟨d1,rfl,hp1,arC,F1,hq,hs⟩:=hv;have Hc:=aQ _ F1 _ arC hq hs;refine Zb1 ?_;refine Vc ((lm-1:Nat):Int) ?_;refine Zb1 ?_;exact aG (lm-1,d1) tR ⟨⟨dO,hp1⟩,Hc⟩
    refine Zb0 ?_;exact aG (lm,d) tR ⟨⟨hlm,permIn_refl _ _ _⟩,H4⟩
  rintro⟨lm1,d1⟩ τ we ⟨⟨Bg,hp1⟩,Hd⟩;dsimp only at Bg hp1 Hd;have Kl:n=d1.size:=by rw[hp1.1];exact hn
  simp only[dA,like,bB];refine Zb4 ?_;obtain⟨F0,fZ,iK,aQ⟩:=Hd.focus At0;refine aS (agn (a:=s) (b:=t) fZ Kl oM oM oM (qP.into Hd.kept iK)) rfl rfl (λv' wf hv=>?_);obtain⟨rfl,arD,F1,hq,hs⟩:=hv;have He:=aQ _ F1 _ arD hq hs;obtain⟨aoL,aoM⟩:=choosePivot_holds (ltC cf) d1 s t oM;obtain⟨pv,hpv⟩: ∃pv,pv=choosePivot (ltC cf) d1 s t:=⟨_,rfl⟩;rw[<-hpv]at aoL aoM ⊢;refine Za5 ?_;refine Qn (iP (λz:Nat×Int×Array α=>[(0,.slice A n c),(1,I s),(2,I t),(3,I lm1),(4,fv),(10,.bool wb),(11,.bool wp),(12,I (t-s:Nat)),(13,I z.1),(14,I z.2.1)]) (λz w'=>((s<=z.1/\z.1<t)/\PermIn s t d z.2.2)/\Sep w F [gM f A n c z.2.2] w') ?_ ?_)
  . refine Za2 ?_
    refine Qn (Cp rfl (λId=>?_) (λId=>?_))
    . have h56:=Id
      refine Zb4 ?_;obtain⟨F0,fZ,iK,aQ⟩:=He.focus At0;refine aS (aam (a:=s) (b:=t) fZ Kl oM oM oM) rfl rfl (λv' wg hv=>?_);obtain⟨rfl,arE,F1,hq,hs⟩:=hv;have Hf:=aQ _ F1 _ arE hq hs;refine Zb1 ?_;refine Vc ((t-1:Nat):Int) ?_;refine Zb2 ?_;refine Vc ((pv.1-s:Nat):Int) ?_;refine Vc ((t-1-(pv.1-s):Nat):Int) ?_;refine Zb2 ?_;exact aG (t-1-(pv.1-s),1,reverseRange d1 s t) tR ⟨⟨⟨dO,dO⟩,permIn_trans _ _ _ _ _ hp1 (reverseRange_holds d1 s t gQ oM)⟩,Hf⟩
    have h56:=Id;refine Zb0 ?_;exact aG (pv.1,ak5 pv.2,d1) tR ⟨⟨⟨aoL,aoM⟩,hp1⟩,He⟩
  rintro⟨p2,h2,d2⟩ τ wh ⟨⟨⟨abU,abV⟩,hp2⟩,Hg⟩;dsimp only at abU abV hp2 Hg;have hn2:n=d2.size:=by rw[hp2.1];exact hn
  have hB2:=hB.perm oM hp2;simp only[dA,like,bB];refine iP (λz:Array α=>[(0,.slice A n c),(1,I s),(2,I t),(3,I lm1),(4,fv),(10,.bool wb),(11,.bool wp),(12,I (t-s:Nat)),(13,I p2)]) (λz w'=>PermIn s t d z/\Sep w F [gM f A n c z] w') ?_ ?_
  . refine Zb2 ?_
    refine iN (t:=69) rfl (λSa=>?_) (λSa=>?_)
    . refine Zb3 ?_
      refine iN (t:=72) rfl (λSb=>?_) (λSb=>?_)
      . refine Za3 ?_
        refine Qn (Cp rfl (λIe=>?_) (λIe=>?_))
        . refine Zb4 ?_
          obtain⟨F0,fZ,iK,aQ⟩:=Hg.focus At0;refine aS (aan (a:=s) (b:=t) fZ hn2 oM oM oM (qP.into Hg.kept iK)) rfl rfl (λv' wi hv=>?_);obtain⟨rfl,aoN,F1,hq,hs⟩:=hv;have Hh:=aQ _ F1 _ aoN hq hs;obtain⟨aoO,arF⟩:=partialInsertionSort_holds hO d2 s t oM oM hB2;refine Qn (Cd rfl (λIf=>?_) (λIf=>?_))
          . have h80:=If
            refine fu (mG (dF (mW (dF (nG (hR:=?_))))));exact⟨_,rfl,Wi _ (permIn_trans _ _ _ _ _ hp2 aoO) (arF h80),Hh.turn⟩
          refine Zb0 ?_;exact aG (partialInsertionSort (ltC cf) d2 s t).1 tR ⟨permIn_trans _ _ _ _ _ hp2 aoO,Hh⟩
        refine Zb0 ?_;exact aG d2 tR ⟨hp2,Hg⟩
      refine Zb1 ?_;exact aG d2 tR ⟨hp2,Hg⟩
    refine Zb3 ?_;exact aG d2 tR ⟨hp2,Hg⟩
  rintro d3 τ wj ⟨Q9,Hi⟩;have hn3:n=d3.size:=by rw[Q9.1];exact hn
  have hB3:=hB.perm oM Q9;have hR:=rdI hn3 Hi At0;simp only[dA,like,bB];refine Zb0 ?_;refine Ds (λSc wk Hj=>?_);refine Zb3 ?_;refine fP (t:=83) rfl (λSd=>?_) (λSd=>?_)
  . have hs0:0<s:=by have:=Sd;omega
    refine Zb3 ?_;refine Gc Sc 6 ((s-1:Nat):Int) ?_;refine Zb6 ?_;refine FcI (λwl Hk=>?_);refine Za3 ?_;refine dP Sc kR ?_;refine aU (Cp rfl (λIg=>?_) (λIg=>?_))
    . have hnl:ltC cf d3[s-1]! d3[p2]! =false:=by simp[ltC];have:=Ig;omega
      obtain⟨g1,g2,g3,g4,g5⟩:=round_eq hO (partitionEqual_holds _) hs0 abU abV oM hB3 hnl (d4:=(partitionEqual (ltC cf) d3 s t p2).2) (mid:=(partitionEqual (ltC cf) d3 s t p2).1) rfl;refine Zb5 ?_;obtain⟨F0,fZ,iK,aQ⟩:=Hk.focus At0;refine aS (U2 (a:=s) (b:=t) (p:=p2) fZ hn3 abU abV oM oM (qP.into Hk.kept iK)) rfl rfl (λv' wm hv=>?_);obtain⟨rfl,Wj,aoP,F1,hq,hs⟩:=hv;have Hl:=aQ _ F1 _ aoP hq hs;refine Zb3 ?_
      first
      | exact ak ((partitionEqual (ltC cf) d3 s t p2).1,t,lm1,wb,wp,(partitionEqual (ltC cf) d3 s t p2).2) tR ⟨⟨⟨Wj,dO,g2,ZO,Bg⟩,g4,λR h1 h2=>Wi R (permIn_trans _ _ _ _ _ Q9 (g5 R h1 h2).1) (g5 R h1 h2).2⟩,Hl⟩ dO
      | exact ak (mid+1,t,lm1,decide ((((t-s)/8:Nat):Int)<=((mid-s:Nat):Int)),ap,d5) tR ⟨⟨⟨hn5,dO,dO,ZO,Bg⟩,k1,λR h1 h2=>Wi R (permIn_trans _ _ _ _ _ Q9 (k2 R h1 h2).1) (k2 R h1 h2).2⟩,Hl⟩ dO
      | exact ak (s,mid,lm1,decide ((((t-s)/8:Nat):Int)<=((t-mid:Nat):Int)),ap,d5) tR ⟨⟨⟨hn5,has,g1,dO,Bg⟩,k1,λR h1 h2=>Wi R (permIn_trans _ _ _ _ _ Q9 (k2 R h1 h2).1) (k2 R h1 h2).2⟩,Hl⟩ dO
    refine Zb5 ?_;obtain⟨F0,fZ,iK,aQ⟩:=Hk.focus At0;refine aS (acn (a:=s) (b:=t) (p:=p2) fZ hn3 abU abV oM oM (qP.into Hk.kept iK)) rfl rfl (λv' wn hv=>?_);obtain⟨rfl,Wj,aoQ,F1,hq,hs⟩:=hv;have Hm:=aQ _ F1 _ aoQ hq hs;obtain⟨g1,g2,g3,g4,g5,g6,g7⟩:=round_part hO (partition_holds _) abU abV oM hB3 (d4:=(partition (ltC cf) d3 s t p2).2.2) (mid:=(partition (ltC cf) d3 s t p2).1) (ap:=(partition (ltC cf) d3 s t p2).2.1) rfl;obtain⟨pr,hpr⟩: ∃pr,pr=partition (ltC cf) d3 s t p2:=⟨_,rfl⟩;rw[<-hpr]at g1 g2 g3 g4 g5 g6 g7 Wj Hm ⊢;obtain⟨mid,ap,d4⟩:=pr;dsimp only at g1 g2 g3 g4 g5 g6 g7 Wj Hm ⊢;refine Zb9 ?_;refine Vc ((mid-s:Nat):Int) ?_;refine Zb2 ?_;refine Vc ((t-mid:Nat):Int) ?_;refine Zb3 ?_;refine Vv (Gives.Yy (a:=t-s) (b:=8) rfl rfl dC oM) (Za4 ?_);refine Qn (Cp rfl (λIh=>?_) (λIh=>?_))
    . have hsm:=Ih
      refine Zb9 ?_;obtain⟨F0,fZ,iK,aQ⟩:=Hm.focus At0;refine aS (ih (mid-s) oM (a:=s) (b:=mid) (lim:=lm1) (zbf _) fZ Wj g1 oM rU Bg g4 (qP.into Hm.kept iK)) rfl rfl (λv' wo hv=>?_);obtain⟨d5,rfl,⟨hp5,Nh⟩,aoR,F1,hq,hs⟩:=hv;have Hn:=aQ _ F1 _ aoR hq hs;obtain⟨k1,k2⟩:=g6 d5 hp5 Nh;have hn5:n=d5.size:=by rw[hp5.1];exact Wj
      refine Zb1 ?_;refine Vc ((mid+1:Nat):Int) ?_;refine Zb1 ?_
      first
      | exact ak ((partitionEqual (ltC cf) d3 s t p2).1,t,lm1,wb,wp,(partitionEqual (ltC cf) d3 s t p2).2) tR ⟨⟨⟨Wj,dO,g2,ZO,Bg⟩,g4,λR h1 h2=>Wi R (permIn_trans _ _ _ _ _ Q9 (g5 R h1 h2).1) (g5 R h1 h2).2⟩,Hn⟩ dO
      | exact ak (mid+1,t,lm1,decide ((((t-s)/8:Nat):Int)<=((mid-s:Nat):Int)),ap,d5) tR ⟨⟨⟨hn5,dO,dO,ZO,Bg⟩,k1,λR h1 h2=>Wi R (permIn_trans _ _ _ _ _ Q9 (k2 R h1 h2).1) (k2 R h1 h2).2⟩,Hn⟩ dO
      | exact ak (s,mid,lm1,decide ((((t-s)/8:Nat):Int)<=((t-mid:Nat):Int)),ap,d5) tR ⟨⟨⟨hn5,has,g1,dO,Bg⟩,k1,λR h1 h2=>Wi R (permIn_trans _ _ _ _ _ Q9 (k2 R h1 h2).1) (k2 R h1 h2).2⟩,Hn⟩ dO
    have hsm:=Ih;refine Zb6 ?_;refine Vc ((mid+1:Nat):Int) ?_;refine Zb3 ?_;obtain⟨F0,fZ,iK,aQ⟩:=Hm.focus At0;refine aS (ih (t-(mid+1)) oM (a:=mid+1) (b:=t) (lim:=lm1) (zbf _) fZ Wj oM oM rU Bg g5 (qP.into Hm.kept iK)) rfl rfl (λv' wq hv=>?_);obtain⟨d5,rfl,⟨hp5,Nh⟩,aoS,F1,hq,hs⟩:=hv;have Ho:=aQ _ F1 _ aoS hq hs;obtain⟨k1,k2⟩:=g7 d5 hp5 Nh;have hn5:n=d5.size:=by rw[hp5.1];exact Wj
    refine Zb2 ?_
    first
    | exact ak ((partitionEqual (ltC cf) d3 s t p2).1,t,lm1,wb,wp,(partitionEqual (ltC cf) d3 s t p2).2) tR ⟨⟨⟨Wj,dO,g2,ZO,Bg⟩,g4,λR h1 h2=>Wi R (permIn_trans _ _ _ _ _ Q9 (g5 R h1 h2).1) (g5 R h1 h2).2⟩,Ho⟩ dO
    | exact ak (mid+1,t,lm1,decide ((((t-s)/8:Nat):Int)<=((mid-s:Nat):Int)),ap,d5) tR ⟨⟨⟨hn5,dO,dO,ZO,Bg⟩,k1,λR h1 h2=>Wi R (permIn_trans _ _ _ _ _ Q9 (k2 R h1 h2).1) (k2 R h1 h2).2⟩,Ho⟩ dO
    | exact ak (s,mid,lm1,decide ((((t-s)/8:Nat):Int)<=((t-mid:Nat):Int)),ap,d5) tR ⟨⟨⟨hn5,has,g1,dO,Bg⟩,k1,λR h1 h2=>Wi R (permIn_trans _ _ _ _ _ Q9 (k2 R h1 h2).1) (k2 R h1 h2).2⟩,Ho⟩ dO
  have hs0:=Sd;refine Zb6 ?_;obtain⟨F0,fZ,iK,aQ⟩:=Hj.focus At0;refine aS (acn (a:=s) (b:=t) (p:=p2) fZ hn3 abU abV oM oM (qP.into Hj.kept iK)) rfl rfl (λv' wr hv=>?_);obtain⟨rfl,Wj,aoT,F1,hq,hs⟩:=hv;have Hp:=aQ _ F1 _ aoT hq hs;obtain⟨g1,g2,g3,g4,g5,g6,g7⟩:=round_part hO (partition_holds _) abU abV oM hB3 (d4:=(partition (ltC cf) d3 s t p2).2.2) (mid:=(partition (ltC cf) d3 s t p2).1) (ap:=(partition (ltC cf) d3 s t p2).2.1) rfl;obtain⟨pr,hpr⟩: ∃pr,pr=partition (ltC cf) d3 s t p2:=⟨_,rfl⟩;rw[<-hpr]at g1 g2 g3 g4 g5 g6 g7 Wj Hp ⊢;obtain⟨mid,ap,d4⟩:=pr;dsimp only at g1 g2 g3 g4 g5 g6 g7 Wj Hp ⊢;refine Zb9 ?_;refine Vc ((mid-s:Nat):Int) ?_;refine Zb2 ?_;refine Vc ((t-mid:Nat):Int) ?_;refine Zb3 ?_;refine Vv (Gives.Yy (a:=t-s) (b:=8) rfl rfl dC oM) (Za4 ?_);refine Qn (Cp rfl (λIi=>?_) (λIi=>?_))
  . have hsm:=Ii
    refine Zb9 ?_;obtain⟨F0,fZ,iK,aQ⟩:=Hp.focus At0;refine aS (ih (mid-s) oM (a:=s) (b:=mid) (lim:=lm1) (zbf _) fZ Wj g1 oM rU Bg g4 (qP.into Hp.kept iK)) rfl rfl (λv' ws hv=>?_);obtain⟨d5,rfl,⟨hp5,Nh⟩,aoU,F1,hq,hs⟩:=hv;have Hq:=aQ _ F1 _ aoU hq hs;obtain⟨k1,k2⟩:=g6 d5 hp5 Nh;have hn5:n=d5.size:=by rw[hp5.1];exact Wj
    refine Zb1 ?_;refine Vc ((mid+1:Nat):Int) ?_;refine Zb1 ?_
    first
    | exact ak ((partitionEqual (ltC cf) d3 s t p2).1,t,lm1,wb,wp,(partitionEqual (ltC cf) d3 s t p2).2) tR ⟨⟨⟨Wj,dO,g2,ZO,Bg⟩,g4,λR h1 h2=>Wi R (permIn_trans _ _ _ _ _ Q9 (g5 R h1 h2).1) (g5 R h1 h2).2⟩,Hq⟩ dO
    | exact ak (mid+1,t,lm1,decide ((((t-s)/8:Nat):Int)<=((mid-s:Nat):Int)),ap,d5) tR ⟨⟨⟨hn5,dO,dO,ZO,Bg⟩,k1,λR h1 h2=>Wi R (permIn_trans _ _ _ _ _ Q9 (k2 R h1 h2).1) (k2 R h1 h2).2⟩,Hq⟩ dO
    | exact ak (s,mid,lm1,decide ((((t-s)/8:Nat):Int)<=((t-mid:Nat):Int)),ap,d5) tR ⟨⟨⟨hn5,has,g1,dO,Bg⟩,k1,λR h1 h2=>Wi R (permIn_trans _ _ _ _ _ Q9 (k2 R h1 h2).1) (k2 R h1 h2).2⟩,Hq⟩ dO
  have hsm:=Ii;refine Zb6 ?_;refine Vc ((mid+1:Nat):Int) ?_;refine Zb3 ?_;obtain⟨F0,fZ,iK,aQ⟩:=Hp.focus At0;refine aS (ih (t-(mid+1)) oM (a:=mid+1) (b:=t) (lim:=lm1) (zbf _) fZ Wj oM oM rU Bg g5 (qP.into Hp.kept iK)) rfl rfl (λv' wt hv=>?_);obtain⟨d5,rfl,⟨hp5,Nh⟩,aoV,F1,hq,hs⟩:=hv;have Hr:=aQ _ F1 _ aoV hq hs;obtain⟨k1,k2⟩:=g7 d5 hp5 Nh;have hn5:n=d5.size:=by rw[hp5.1];exact Wj
  refine Zb2 ?_
  first
  | exact ak ((partitionEqual (ltC cf) d3 s t p2).1,t,lm1,wb,wp,(partitionEqual (ltC cf) d3 s t p2).2) tR ⟨⟨⟨Wj,dO,g2,ZO,Bg⟩,g4,λR h1 h2=>Wi R (permIn_trans _ _ _ _ _ Q9 (g5 R h1 h2).1) (g5 R h1 h2).2⟩,Hr⟩ dO
  | exact ak (mid+1,t,lm1,decide ((((t-s)/8:Nat):Int)<=((mid-s:Nat):Int)),ap,d5) tR ⟨⟨⟨hn5,dO,dO,ZO,Bg⟩,k1,λR h1 h2=>Wi R (permIn_trans _ _ _ _ _ Q9 (k2 R h1 h2).1) (k2 R h1 h2).2⟩,Hr⟩ dO
  | exact ak (s,mid,lm1,decide ((((t-s)/8:Nat):Int)<=((t-mid:Nat):Int)),ap,d5) tR ⟨⟨⟨hn5,has,g1,dO,Bg⟩,k1,λR h1 h2=>Wi R (permIn_trans _ _ _ _ _ Q9 (k2 R h1 h2).1) (k2 R h1 h2).2⟩,Hr⟩ dO
theorem Xw (hO:SWO (ltC cf)) (hp:(gM f A n c d₀).ok F w) (CQ:n=d₀.size) (rU:n<1000000) (qP:rJ prog fv f cf F w):
    aN prog 105 [.slice A n c,fv] w λr w'=>∃d':Array α,r=.tuple #[]/\(PermIn 0 n d₀ d'/\SortedIn (ltC cf) 0 n d')/\Turn F (gM f A n c d') w w':=by
  have H:=Sep.dZ hp
  have hbl:Lib.bitLen n<=62:=by
    rcases zeh n with e | e
    . rw[e];decide
    exact(KJ e rU).2.2
  refine dS func105 rfl rfl rfl rfl ?_;refine Zb6 ?_;refine Vv (Gives.Dj (c:=(n:Int)) rfl (by rw[IntKind.wrap_u64];omega)) ?_;refine gX (Gy n oM) (h:=?_);refine Mv ?_;obtain⟨F0,fZ,iK,aQ⟩:=H.focus At0;refine aS (ajv hO n (a:=0) (b:=n) (lim:=Lib.bitLen n) oM fZ CQ (zak _) (zbf _) rU oM (.inl rfl) (qP.into H.kept iK)) rfl rfl (λv' wa hv=>?_);obtain⟨d5,rfl,hps,amO,F1,hq,hs⟩:=hv;have Ha:=aQ _ F1 _ amO hq hs;refine Zb0 ?_;exact⟨d5,rfl,hps,Ha.turn⟩
end
theorem RF {a b:List aI} {i:Nat} (h:a.take i=b.take i):uE vT a b=uE vT (a.drop i) (b.drop i):=by
 induction i generalizing a b with
 | zero=>rfl
 | succ i ih=>
  cases a with
  | nil=>cases b with
   | nil=>rfl
   | cons y s=>simp at h
  | cons x r=>cases b with
   | nil=>simp at h
   | cons y s=>
    simp only[zde,List.cons.injEq]at h;obtain⟨rfl,h⟩:=h;rw[zeo,zeo,<-ih h,uE,zab (by rw[Og.self];decide)]
theorem ajw {a b:List aI} {i:Nat} {x y:aI} (h:a.take i=b.take i) (hx:a[i]? =some x) (hy:b[i]? =some y) (iF:vT x y≠0):nJ a b=vT x y:=by
 unfold nJ;rw[RF h]
 have ex:a.drop i=x::a.drop (i+1):=by
  obtain⟨hi,e⟩:=zbd.1 hx;rw[<-e];exact zbq hi
 have ey:b.drop i=y::b.drop (i+1):=by
  obtain⟨hi,e⟩:=zbd.1 hy;rw[<-e];exact zbq hi
 rw[ex,ey,uE,zac iF]
theorem agr {a b:List aI} {i:Nat} (h:a.take i=b.take i) (hi:i=min a.length b.length):nJ a b=Fx (a.length:Int) (b.length:Int):=by
 unfold nJ;rw[RF h]
 rcases Nat.lt_trichotomy a.length b.length with hl | hl | hl
 .have e1:a.drop i=[]:=zca oM
  obtain⟨y,s,e2⟩: ∃y s,b.drop i=y::s:=zew (by rw[zbu];omega);rw[e1,e2,uE];unfold Fx;rw[zac oM]
 .have e1:a.drop i=[]:=zca oM
  have e2:b.drop i=[]:=zca oM;rw[e1,e2,uE];unfold Fx;rw[zab oM,zab oM]
 have e1:b.drop i=[]:=zca oM;obtain⟨y,s,e2⟩: ∃y s,a.drop i=y::s:=zew (by rw[zbu];omega);rw[e1,e2,uE];unfold Fx;rw[zab oM,zac oM]
section
variable {w:Wd}
theorem RG (n:Int):aN prog 211 [I n] w λv w'=>v=.bool false/\w=w':=by
 have H:=Sep.aL w;refine eP func211 rfl rfl rfl rfl ?_;refine Zb5 ?_;exact⟨zaw Value.bool sM,rfl⟩
theorem adC (a b:Int):aN prog 155 [I a,I b] w λv w'=>v=I (Fx a b)/\w=w':=by
 have H:=Sep.aL w;refine dS func155 rfl rfl rfl rfl ?_;refine Zb2 ?_;refine gX (RG a) (h:=?_);refine Zb2 ?_;refine gX (RG b) (h:=?_);refine Za2 ?_;refine Qn (Cd rfl (λJf=>?_) (λJf=>?_))
 .cases Jf
 refine Za1 ?_;refine Qn (Cd rfl (λIa=>?_) (λIa=>?_))
 .cases Ia
 refine Za3 ?_;refine Qn (Cp rfl (λIb=>?_) (λIb=>?_))
 .have h1:=Ib
  refine Zb1 ?_;exact⟨by unfold Fx;rw[zac h1];rfl,rfl⟩
 have h1:=Ib;refine Za3 ?_;refine Qn (Cp rfl (λIc=>?_) (λIc=>?_))
 .have h2:=Ic
  refine Zb1 ?_;exact⟨by unfold Fx;rw[zab h1,zac oM];rfl,rfl⟩
 have h2:=Ic;refine Zb1 ?_;exact⟨by unfold Fx;rw[zab h1,zab oM];rfl,rfl⟩
theorem adD {a b:List aI} {va vb:Value} (ha:aM w va aj 3 a) (hb:aM w vb aj 3 b):aN prog 104 [va,vb] w λv w'=>v=I (nJ a b)/\Kept noB w w':=by
 obtain⟨A,m,rfl,⟨hm,qo⟩,hA⟩:=ha;obtain⟨B,n,rfl,⟨hn,Zp⟩,hB⟩:=hb;have H:=Sep.aL w;refine dS func104 rfl rfl rfl rfl ?_;refine Zb5 ?_;refine Vv (Gives.C8 (m:=((min a.length b.length:Nat):Int)) rfl rfl oM) (Zb1 ?_);refine aP (λi:Nat=>[(0,.slice A a.length m),(1,.slice B b.length n),(11,I (min a.length b.length:Nat)),(12,I i)]) (λi w'=>(i<=min a.length b.length/\a.take i=b.take i)/\Sep w noB [] w') (λi _=>min a.length b.length-i) 0 tR ⟨⟨zak _,sM⟩,H⟩ (λi τ w9 hI=>?_);obtain⟨⟨hi,gQ⟩,H9⟩:=hI
 try simp only[dA,like,bB,bY]
 refine Za1 ?_;refine Qn (fC (Cp rfl (λIa=>?_) (λIa=>?_)))
 .have bX:i<a.length:=oM
  have Co:i<b.length:=oM;obtain⟨x,hx⟩:=get_some bX;obtain⟨y,hy⟩:=get_some Co;refine Zb2 ?_;refine Ds (λSa wa Ha=>?_);refine Zb8 ?_;refine iZ Sa 8 _ Ha (vK x y) (h:=λwb Hb ka=>⟨sT,?_⟩);refine Za3 ?_;refine Qn (Cp rfl (λIb=>?_) (λIb=>?_))
  .have Ka:=Ib
   refine Zb2 ?_;exact⟨by rw[ajw gQ hx hy Ka];rfl,Hb.kept⟩
  have Ka:x=y:=(Og.eq0 x y).1 (by have:=Ib;omega);have Jb:a.take (i+1)=b.take (i+1):=by rw[zav,zav,gQ,hx,hy,Ka]
  refine Zb0 ?_;refine Vc ((i+1:Nat):Int) ?_;refine Zb1 ?_;exact ak (i+1) tR ⟨⟨oM,Jb⟩,Hb⟩ oM
 have qp:i=min a.length b.length:=oM;refine Zb4 ?_;refine gX (adC _ _) (h:=?_);refine Zb1 ?_;exact⟨by rw[agr gQ qp];rfl,H9.kept⟩
theorem QH {l:List aI} {v:Value} (hl:aM w v aj 3 l) (uH:l.length<=1000):aN prog 108 [v] w λv' w'=>∃x,v'=x/\True/\Turn noB (bW 52 3 aj x l) w w':=by
 obtain⟨A,m,rfl,⟨hm,qo⟩,hA⟩:=hl;have H:=Sep.aL w;refine eP func108 rfl rfl rfl rfl ?_;refine Za3 ?_;refine Qn (Cd rfl (λZy=>?_) (λZy=>?_))
 .have Zk:A=none:=by have h:=Zy;cases A<;>first | rfl | cases h
  have G8:l=[]:=by
   cases l with
   | nil=>rfl
   | cons x l=>obtain⟨ad,he⟩:=hA.addr (Nat.succ_pos _);rw[Zk]at he;cases he
  have H6:=Sep.lZ H 52 3 aj;refine Zb1 ?_;exact⟨_,rfl,trivial,by rw[G8];exact H6.turn⟩
 refine Zb0 ?_;refine Bs H [] (λbs wa Ha k9=>?_);have Ha:Sep w noB (bW 52 3 aj (.slice (some ⟨bs,0,none⟩) 0 0) ([]:List aI)::[]) _:=Sep.rM (n:=0) Ha At0 rfl dC;refine Mv ?_;refine jW Ha At0 (hA.keep Ha.kept) (by unfold maxLen;simp;omega) (by simp;omega) (cells_one (λ_=>rfl) _) (h:=?_);intro v2 wb Hb;refine Zb1 ?_;exact⟨_,rfl,trivial,by rw[zbr]at Hb;exact Hb.turn⟩
theorem Jw {l:List bL} {v:Value} (hl:aM w v aR 7 l) (uH:l.length<=1000):aN prog 46 [v] w λv' w'=>∃x,v'=x/\True/\Turn noB (bW 54 7 aR x l) w w':=by
 obtain⟨A,m,rfl,⟨hm,qo⟩,hA⟩:=hl;have H:=Sep.aL w;refine eP func46 rfl rfl rfl rfl ?_;refine Za3 ?_;refine Qn (Cd rfl (λZy=>?_) (λZy=>?_))
 .have Zk:A=none:=by have h:=Zy;cases A<;>first | rfl | cases h
  have G8:l=[]:=by
   cases l with
   | nil=>rfl
   | cons x l=>obtain⟨ad,he⟩:=hA.addr (Nat.succ_pos _);rw[Zk]at he;cases he
  have H6:=Sep.lZ H 54 7 aR;refine Zb1 ?_;exact⟨_,rfl,trivial,by rw[G8];exact H6.turn⟩
 refine Zb0 ?_;refine Bs H [] (λbs wa Ha k9=>?_);have Ha:Sep w noB (bW 54 7 aR (.slice (some ⟨bs,0,none⟩) 0 0) ([]:List bL)::[]) _:=Sep.rM (n:=0) Ha At0 rfl dC;refine Mv ?_;refine jW Ha At0 (hA.keep Ha.kept) (by unfold maxLen;simp;omega) (by simp;omega) (cells_one (λ_=>rfl) _) (h:=?_);intro v2 wb Hb;refine Zb1 ?_;exact⟨_,rfl,trivial,by rw[zbr]at Hb;exact Hb.turn⟩
theorem zP {l:List bJ} {v:Value} (hl:aM w v aD 3 l) (uH:l.length<=1000):aN prog 82 [v] w λv' w'=>∃x,v'=x/\True/\Turn noB (bW 92 3 aD x l) w w':=by
 obtain⟨A,m,rfl,⟨hm,qo⟩,hA⟩:=hl;have H:=Sep.aL w;refine eP func82 rfl rfl rfl rfl ?_;refine Za3 ?_;refine Qn (Cd rfl (λZy=>?_) (λZy=>?_))
 .have Zk:A=none:=by have h:=Zy;cases A<;>first | rfl | cases h
  have G8:l=[]:=by
   cases l with
   | nil=>rfl
   | cons x l=>obtain⟨ad,he⟩:=hA.addr (Nat.succ_pos _);rw[Zk]at he;cases he
  have H6:=Sep.lZ H 92 3 aD;refine Zb1 ?_;exact⟨_,rfl,trivial,by rw[G8];exact H6.turn⟩
 refine Zb0 ?_;refine Bs H [] (λbs wa Ha k9=>?_);have Ha:Sep w noB (bW 92 3 aD (.slice (some ⟨bs,0,none⟩) 0 0) ([]:List bJ)::[]) _:=Sep.rM (n:=0) Ha At0 rfl dC;refine Mv ?_;refine jW Ha At0 (hA.keep Ha.kept) (by unfold maxLen;simp;omega) (by simp;omega) (cells_one (λ_=>rfl) _) (h:=?_);intro v2 wb Hb;refine Zb1 ?_;exact⟨_,rfl,trivial,by rw[zbr]at Hb;exact Hb.turn⟩
theorem sS {l:List aI} {v:Value} (hl:aM w v aj 3 l) (uH:l.length<=1000):aN prog 70 [v] w λv' w'=>∃x,v'=x/\True/\Turn noB (bW 52 3 aj x l) w w':=by
 have H:=Sep.aL w;refine eP func70 rfl rfl rfl rfl ?_;refine Zb2 ?_;refine dx H (QH hl uH) (h:=λvx w4 _ H4 k3=>?_);refine Zb1 ?_;exact⟨_,rfl,trivial,H4.turn⟩
end
def Es (s:List aH):Prop:=s.Pairwise λa b=>nJ a.row b.row<=0
theorem KL {a b c:List aI} (h:nJ a b<=0) (h2:nJ b c<0):nJ a c<0:=by
 rcases Int.lt_or_lt_of_ne (a:=nJ a b) (b:=0) |> λf=>(Decidable.em (nJ a b=0)).imp id f with e | e | e
 .rw[(jF.eq0 a b).1 e];exact h2
 .exact jF.trans _ _ _ e h2
 omega
theorem KM {a b c:List aI} (h:nJ a b<0) (h2:nJ b c<=0):nJ a c<0:=by
 rcases Decidable.em (nJ b c=0)with e | e
 .rw[<-(jF.eq0 b c).1 e];exact h
 exact jF.trans _ _ _ h oM
structure zn (l o s:List aH):Prop where
 wt: ∀r,wtL o r+wtL s r=wtL l r
 srt:Es s
 oz:isZ o
 lt: ∀x∈o,∀y∈s,nJ x.row y.row<0
theorem Xx {a b:List aH} (h:a.Perm b) (r:List aI):wtL a r=wtL b r:=by
 induction h with
 | nil=>rfl
 | cons x _ ih=>rw[wtL,wtL,ih]
 | swap x y l=>rw[wtL,wtL,wtL,wtL];omega
 | trans _ _ h1 h2=>exact h1.trans h2
theorem zn.start {l s:List aH} (hp:s.Perm l) (hs:Es s):zn l [] s:=
 ⟨λr=>by rw[wtL,Xx hp];omega,hs,⟨List.Pairwise.nil,λ_ h=>zat h zaj,λ_ h=>zat h zaj⟩,λ_ h=>zat h zaj⟩
theorem zn.done {l o:List aH} (h:zn l o []):dY l=(o,0):=by
 rw[<-Af h.oz];exact qD λr=>by rw[<-h.wt r];simp[wtL]
section
variable {l o s:List aH} {x:aH} {j:Nat}
theorem zn.first (h:zn l o s) (hx:s[0]? =some x) (hn: ∀y,s[j]? =some y->y.row≠x.row):wtL (s.take j) x.row=wtL l x.row/\∀y∈s.drop j,nJ x.row y.row<0:=by
 have hb: ∀y∈s.drop j,nJ x.row y.row<0:=by
  intro y hy;obtain⟨z,t,hz⟩: ∃z t,s.drop j=z::t:=List.exists_cons_of_ne_nil (List.ne_nil_of_mem hy)
  have hzj:s[j]? =some z:=by
   have:=zaw (λq=>q[0]?) hz;simpa[zct]using this
  have hj0:0<j:=by
   rcases zeh j with e | e
   .subst e;rw[hx]at hzj;injection hzj with hzj;subst hzj;exact zat rfl (hn x hx)
   exact e
  have arI:=h.srt;have hp:Es (s.take j++s.drop j):=by rw[zbx];exact arI
  obtain⟨_,hp2,Q9⟩:=List.pairwise_append.1 hp;have hxm:x∈s.take j:=zao (i:=0) (by rw[zcn,zac hj0];exact hx);have hxz:=Q9 x hxm z (by rw[hz];exact zah);have iF:=hn z hzj
  have bX:nJ x.row z.row<0:=by
   have:=mt (jF.eq0 x.row z.row).1 λe=>iF e.symm;omega
  rw[hz]at hy hp2
  rcases zap.1 hy with e | e
  .rw[e];exact bX
  exact KM bX ((zcu.1 hp2).1 y e)
 refine⟨?_,hb⟩;have h1:wtL s x.row=wtL (s.take j) x.row+wtL (s.drop j) x.row:=by rw[<-gF,zbx]
 have h2:wtL (s.drop j) x.row=0:=uU λy hy e=>jF.irr (hb y hy) e.symm;have h3:wtL o x.row=0:=uU λy hy e=>jF.irr (h.lt y hy x (zao hx)) e;have:=h.wt x.row;omega
theorem zn.bad (h:zn l o s) (hx:s[0]? =some x) (hn: ∀y,s[j]? =some y->y.row≠x.row) (hf:gU (wtL (s.take j) x.row)≠true):dY l=([],50):=by
 refine nK λe=>hf ?_;rw[(h.first hx hn).1];exact En.1 e _
theorem zn.step (h:zn l o s) (hx:s[0]? =some x) (lQ: ∀y∈s.take j,y.row=x.row) (hn: ∀y,s[j]? =some y->y.row≠x.row) (hf:gU (wtL (s.take j) x.row)=true):
    zn l (if wtL (s.take j) x.row≠0 then o++[⟨x.row,wtL (s.take j) x.row⟩]else o) (s.drop j):=by
  obtain⟨h1,h2⟩:=h.first hx hn;have Qv:Es (s.drop j):=h.srt.sublist (List.drop_sublist _ _)
  have hw: ∀r,wtL s r=(if x.row=r then wtL (s.take j) x.row else 0)+wtL (s.drop j) r:=λr=>by
    have :wtL s r=wtL (s.take j) r+wtL (s.drop j) r:=by rw[<-gF,zbx]
    by_cases e:x.row=r
    . rw[zac e,<-e];rw[<-e]at this;exact this
    rw[zab e,this,uU λy hy e2=>e (by rw[<-lQ y hy];exact e2)]
  by_cases h0:wtL (s.take j) x.row≠0
  . rw[zac h0]
    refine⟨λr=>?_,Qv,⟨?_,λy hy=>?_,λy hy=>?_⟩,λy hy z hz=>?_⟩
    . rw[gF,<-h.wt r,hw r,wtL,wtL];dsimp only;omega
    . unfold rW
      rw[zam,List.pairwise_append];refine⟨h.oz.1,List.pairwise_singleton _ _,λa ha b hb=>?_⟩;obtain⟨y,hy,rfl⟩:=zaq.1 ha;simp at hb;subst hb;exact h.lt y hy x (zao hx)
    . rcases zbh.1 hy with e | e
      . exact h.oz.2.1 y e
      rw[zay]at e;subst e;exact h0
    . rcases zbh.1 hy with e | e
      . exact h.oz.2.2 y e
      rw[zay]at e;subst e;exact hf
    rcases zbh.1 hy with e | e
    . exact h.lt y e z (zfu hz)
    rw[zay]at e;subst e;exact h2 z hz
  rw[zab h0];refine⟨λr=>?_,Qv,h.oz,λy hy z hz=>h.lt y hy z (zfu hz)⟩;have h5:wtL (s.take j) x.row=0:=Decidable.of_not_not h0;rw[<-h.wt r,hw r,h5]
  split<;>omega
end
def oQ:List aH->Bool
 | []=>true
 | [x]=>decide (x.w≠0)
 | x::y::l=>decide (x.w≠0/\nJ x.row y.row<0)&&oQ (y::l)
theorem Et: ∀{z:List aH},isZ z->oQ z=true
 | [],_=>rfl
 | [x],h=>zbe (h.2.1 x zah)
 | x::y::l,h=>by
  obtain⟨h1,h2,h3⟩:=h;obtain⟨h4,h5⟩:=zcu.1 h1;rw[oQ,Et (z:=y::l) ⟨h5,λz hz=>h2 z (zai _ hz),λz hz=>h3 z (zai _ hz)⟩,Bool.and_true];exact zbe ⟨h2 x zah,h4 _ zah⟩
theorem Jy {z:List aH}:oQ z=true↔(∀x∈z,x.w≠0)/\∀(i:Nat) x y,z[i]? =some x->z[i+1]? =some y->nJ x.row y.row<0:=by
 match z with
 | []=>simp[oQ]
 | [x]=>simp[oQ]
 | x::y::l=>
  rw[oQ,zbv,decide_eq_true_eq,Jy (z:=y::l)];constructor
  .rintro⟨⟨h1,h2⟩,h3,h4⟩
   refine⟨λa ha=>?_,λi a b ha hb=>?_⟩
   .rcases zap.1 ha with e | e
    .rw[e];exact h1
    exact h3 a e
   cases i with
   | zero=>simp at ha hb;subst ha;subst hb;exact h2
   | succ i=>exact h4 i a b (by simpa using ha) (by simpa using hb)
  rintro⟨h1,h2⟩;exact⟨⟨h1 x zah,h2 0 x y rfl rfl⟩,λa ha=>h1 a (zai _ ha),λi a b ha hb=>h2 (i+1) a b (by simpa using ha) (by simpa using hb)⟩
end Go.Proofs.YtkfpleidaoaonaaGreatDoor
namespace Go.Mw
open Go.RowKit
theorem Sep.al5 {w0 w:Wd} {X:Wd->Prop} {rs:List HP} {p:HP} {put:HP->List HP} (H:Sep w0 noB (iC X::rs) w) (hat:At rs p put):
    ∃F,p.ok F w/\(∀b,F b->w0.heap.size<=b)/\(∀w1,Kept F w w1->X w1/\Kept noB w0 w1)/\∀w' F' p',Kept F w w'->p'.ok F' w'->(∀b,F' b->F b\/w.heap.size<=b)->Sep w0 noB (iC X::put p') w':=by
  obtain⟨F,Fq,hp,hq,hd,hS,nA⟩:=H.ahz hat;have hS': ∀b,F b->w0.heap.size<=b:=λb hb=>(hS b hb).resolve_left id;exact⟨F,hp,hS',λw1 hk=>⟨hq.1 w1 hk.size λb hb=>hk.block b (hq.2 b hb) (hd b hb),H.kept.trans hk λb hb=>.inr (hS' b hb)⟩,nA⟩
end Go.Mw
namespace Go.Proofs.YtkfpleidaoaonaaGreatDoor
open Go Go.Mw Go.Lib Go.Sort
set_option maxRecDepth 4000
attribute [local irreducible] FW FL FG FGn gu gy dh gH Qfn Gives
def Jz (n:Nat):LV:=[I n]
instance:lY Jz 1:=⟨λ_=>rfl⟩
theorem Xy {α β:Type} {e k:Nat} {enc:β->LV} {g:α->β} {v:Value} {l:List α}:bW e k enc v (l.map g)=bW e k (λx=>enc (g x)) v l:=by
 unfold bW;rw[zae,List.flatMap_map]
theorem ajx {α:Type} [Inhabited α] {enc:α->LV} {k:Nat} [hk:lY enc k] {w:Wd} {A:OA} {l:List α} {c j:Nat} (h:Mw.Rd w A enc k l) (hj:j<=l.length) (hc:l.length<=c):Mw.Rd w (if c=j then A else A.map (·.add (j*k))) enc k (l.drop j):=by
 have:=jB.cut h (k:=j) (cap:=c) hj hc;unfold Mw.Rd;rw[zbu]
 have e0:((l.take j).flatMap enc).length=j*k:=by
  rw[mJ hk.len (l.take j),zag,zck hj]
 have e:(l.flatMap enc).drop (j*k)=(l.drop j).flatMap enc:=by
  conv=>lhs;rw[<-zbx j l,zcd]
  exact List.drop_left' e0
 rw[<-e];exact this
def zo (n i:Nat):List Nat:=List.range i++List.replicate (n-i) 0
theorem RH {n i:Nat} (h:i<=n):(zo n i).length=n:=by
 unfold zo;rw[zad,zdu,zer];omega
theorem adE {n i:Nat} (h:i<n):(zo n i).set i i=zo n (i+1):=by
 unfold zo;rw[zfm _ _ (by rw[zdu];exact zbf _),zdu,zev,show n-i=(n-(i+1))+1 from oM,zfc,zeg,List.range_succ,zbs];rfl
theorem ags {n i:Nat} (h:i<n):(zo n i)[i]? =some 0:=by
 unfold zo;rw[zcb (by rw[zdu];exact zbf _),zdu,zev,show n-i=(n-(i+1))+1 from oM,zfc];rfl
theorem adF (n:Nat):zo n n=List.range n:=by unfold zo;rw[zev];simp
section
variable {w:Wd}
theorem Ol {l:List aH} {r:List (Value×Int)} {v:Value} (hr:aM w v av 2 r) (gW:fM w r l) {a b:Nat} {x y:aH} (hx:l[a]? =some x) (hy:l[b]? =some y):
    aN Tryz.prog 64 [v,I a,I b] w λu w'=>u=I (nJ x.row y.row)/\Kept noB w w':=by
  obtain⟨A,m,rfl,⟨hm,qo⟩,hA⟩:=hr;obtain⟨vx,hvx,Cq⟩:=gW.get hx;obtain⟨vy,hvy,hsy⟩:=gW.get hy;have hla:=jk hvx;have hlb:=jk hvy;have H:=Sep.aL w;refine tH Tryz.func64 rfl rfl rfl rfl ?_;refine Zb1 ?_;refine Ds (λEh w4 H4=>?_);refine aeH ?_;refine iZ Eh 10 _ H4 (adD (Cq.keep H4.kept) (hsy.keep H4.kept)) (h:=λwa Ha ka=>⟨sT,?_⟩);refine Zb1 ?_;exact⟨rfl,Ha.kept⟩
theorem Xz {A:OA} {n c:Nat} {fv:Value}:aN Tryz.prog 212 [.slice A n c,I 0,I 0,fv] w λr w'=>r=.tuple #[]/\Kept noB w w':=by
 have H:=Sep.aL w;refine CV Tryz.func212 rfl rfl rfl rfl ?_;refine Zb3 ?_;refine aP (λ_:Unit=>[(2,I 0),(8,I 1)]) (λ_ w'=>Sep w noB [] w') (λ_ _=>0) () tR H (λ_ τ w5 H5=>?_)
 try simp only[dA,like,bB,bY]
 refine Za3 ?_;refine Qn (Cp rfl (λJf=>?_) (λJf=>?_))
 .exact zat Jf dC
 refine Zb0 ?_;exact⟨rfl,H5.kept⟩
theorem ajy {A:OA} {n c:Nat} {fv lim:Value}:aN Tryz.prog 156 [.slice A n c,I 0,I 0,lim,fv] w λr w'=>r=.tuple #[]/\Kept noB w w':=by
 have H:=Sep.aL w;refine Rl Tryz.func156 rfl rfl rfl rfl ?_;refine Zb2 ?_;refine aP (λ_:Unit=>[(0,.slice A n c),(1,I 0),(2,I 0),(3,lim),(4,fv),(10,.bool true),(11,.bool true)]) (λ_ w'=>Sep w noB [] w') (λ_ _=>0) () tR H (λ_ τ w4 H4=>?_)
 try simp only[dA,like,bB,bY]
 refine Za6 ?_;refine Qn (Cp rfl (λIa=>?_) (λIa=>?_))
 .refine Zb4 ?_
  refine aF H4 Xz (h:=λwa Ha ka=>?_);refine Zb0 ?_;exact⟨rfl,Ha.kept⟩
 exact zat Ia dC
theorem U3 {A:OA} {c:Nat} {fv:Value}:aN Tryz.prog 105 [.slice A 0 c,fv] w λr w'=>r=.tuple #[]/\Kept noB w w':=by
 have H:=Sep.aL w;refine dS Tryz.func105 rfl rfl rfl rfl ?_;refine Zb6 ?_;refine Vv (Gives.Dj (c:=0) rfl (by rw[IntKind.wrap_u64];rfl)) ?_;refine gX (Gy 0 dC) (h:=?_);refine Mv ?_;refine aF H ajy (h:=λwa Ha ka=>?_);refine Zb0 ?_;exact⟨rfl,Ha.kept⟩
theorem QI {a b c:List aI} (h: ¬nJ a b<0) (h2: ¬nJ b c<0): ¬nJ a c<0:=by
 have h3:nJ b a<=0:=by rw[jF.anti];omega
 have h4:nJ c b<=0:=by rw[jF.anti];omega
 intro h5;have:=KL h4 (KM (KL h3 h5) (Int.le_of_eq (jF.self c)));have h6:=KL h3 h5;have h7:=KM h6 h4;rw[jF.self]at h7;omega
theorem aao {α:Type} [Inhabited α] {d d':Array α} {n:Nat} (hn:n=d.size) (h:PermIn 0 n d d'):d'.toList.Perm d.toList:=by
 obtain⟨h1,_,h2⟩:=h
 have e: ∀x:Array α,x.size=n->(x.extract 0 n).toList=x.toList:=λx hx=>by
  rw[Array.toList_extract,zfv,zdg,zfk,zaf (by rw[zgc];omega)]
 rw[e d' oM,e d hn.symm]at h2;exact h2
theorem ajz {α:Type} [Inhabited α] (g:α->List aI):SWO (ltC λx y=>nJ (g x) (g y)) where
 irrefl x:=zar (by show ¬nJ (g x) (g x)<0;rw[jF.self];omega)
 trans x y z h1 h2:=zbe (jF.trans _ _ _ (zba h1) (zba h2))
 ntrans x y z h1 h2:=zar (QI (of_decide_eq_false h1) (of_decide_eq_false h2))
theorem U4 {w0:Wd} {F:NP} {l:List aH} {r:List (Value×Int)} {v:Value} {B:OA} {c:Nat} (hr:aM w0 v av 2 r) (gW:fM w0 r l) (hk: ∀w1,Kept F w w1->Kept noB w0 w1)
    (hp:(bW 3 1 Jz (.slice B l.length c) (List.range l.length)).ok F w) (hn:l.length<=1000):
    aN Tryz.prog 105 [.slice B l.length c,.func (.func 64) #[v] #[]] w λu w'=>∃ps:List Nat,u=.tuple #[]/\(ps.Perm (List.range l.length)/\ps.Pairwise λi j=>∀a b,l[i]? =some a->l[j]? =some b->nJ a.row b.row<=0)/\Turn F (bW 3 1 Jz (.slice B l.length c) ps) w w':=by
  obtain⟨m,hm⟩: ∃m,m=l.length:=⟨_,rfl⟩;rw[<-hm]at hp hn ⊢;cases m with
  | zero=>
    refine aN.mono U3 λu w' hu=>?_;obtain⟨rfl,Ck⟩:=hu;exact⟨[],rfl,⟨List.Perm.refl _,List.Pairwise.nil⟩,Ck.mono λ_ h=>h.elim,F,HP.stay hp Ck,λ_ h=>.inl h⟩
  | succ m=>
    have bX: ∀x:Fin (m+1),x.val<l.length:=λx=>by have:=x.isLt;omega
    obtain⟨d₀,hd₀⟩: ∃d₀:Array (Fin (m+1)),d₀=(List.finRange (m+1)).toArray:=⟨_,rfl⟩;have ZL:m+1=d₀.size:=by rw[hd₀];simp
    have hdl:d₀.toList.map (·.val)=List.range (m+1):=by
      rw[hd₀];refine List.ext_getElem sM λi h1 h2=>?_;simp
    have hp':(gM (λx:Fin (m+1)=>(x.val:Int)) B (m+1) c d₀).ok F w:=by
      unfold gM;have:=hp;rw[<-hdl,Xy]at this;exact this
    have qP:rJ Tryz.prog (.func (.func 64) #[v] #[]) (λx:Fin (m+1)=>(x.val:Int)) (λx y=>nJ (l[x.val]'(bX x)).row (l[y.val]'(bX y)).row) F w:=
      ⟨_,[v],[],rfl,inferInstance,λw1 h1 x y=>Ol (hr.keep (hk w1 h1)) (gW.keep (hk w1 h1)) (zaa (bX x)) (zaa (bX y))⟩
    refine aN.mono (Xw (ajz λx:Fin (m+1)=>(l[x.val]'(bX x)).row) hp' ZL oM qP) λu w' hu=>?_;obtain⟨d',rfl,⟨h1,h2⟩,ht⟩:=hu;refine⟨d'.toList.map (·.val),rfl,⟨?_,?_⟩,?_⟩
    . rw[<-hdl]
      exact(aao ZL h1).map _
    . rw[List.pairwise_map,zfy]
      intro i j hi hj LC a b ha hb;rw[zgc]at hi hj;have h3:=h2 i j (zak _) LC (by have:=h1.1;omega);have h4:=of_decide_eq_false h3;rw[getElem!_pos d' j hj,getElem!_pos d' i hi]at h4;dsimp only at h4;rw[Array.getElem_toList]at ha hb;rw[zaa (bX _)]at ha hb;injection ha with ha
      injection hb with hb
      subst ha;subst hb;rw[jF.anti];omega
    rw[Xy];exact ht
theorem adG {l:List aH} {v:Value} (hl:cZ w v l) (hn:l.length<=1000):
    aN Tryz.prog 65 [v] w λu w'=>∃x:Value×List Nat,u=x.1/\(x.2.Perm (List.range l.length)/\x.2.Pairwise λi j=>∀a b,l[i]? =some a->l[j]? =some b->nJ a.row b.row<=0)/\Turn noB (bW 3 1 Jz x.1 x.2) w w':=by
  obtain⟨r,hr,gW⟩:=hl;have xk:=gW.len;have LG:=hr;obtain⟨A,m,rfl,⟨hm,qo⟩,hA⟩:=hr;have H:=Sep.aL w;refine eP Tryz.func65 rfl rfl rfl rfl ?_;refine Zb3 ?_;refine ahC H (k:=r.length) (by unfold maxLen;omega) oM (h:=λb3 w5 H5 k4=>?_)
  have H5:Sep w noB (bW 3 1 Jz (.slice (some ⟨b3,0,none⟩) r.length r.length) (zo r.length 0)::[]) w5:=by
    have h0:=Sep.rM (n:=r.length) (s:=1) H5 At0 sM (by unfold maxLen;omega);unfold bW;rw[RH (zak _)]
    have e:(zo r.length 0).flatMap Jz=List.replicate r.length (Value.int .i64 0):=by
      unfold zo;rw[List.range_zero,zbr,zfk];clear h0 xk LG hm qo hA
      induction r.length with
      | zero=>rfl
      | succ k ih=>rw[zfc,zbg,ih,zfc];rfl
    rw[e];exact h0
  refine Zb4 ?_;refine aP (λi:Nat=>[(0,.slice A r.length m),(3,.slice (some ⟨b3,0,none⟩) r.length r.length),(9,I r.length),(10,I i)]) (λi w'=>i<=r.length/\Sep w noB [bW 3 1 Jz (.slice (some ⟨b3,0,none⟩) r.length r.length) (zo r.length i)] w') (λi _=>r.length-i) 0 tR ⟨zak _,H5⟩ (λi τ wa hI=>?_);obtain⟨hi,Ha⟩:=hI
  try simp only[dA,like,bB,bY]
  refine Za1 ?_;refine Qn (fC (Cp rfl (λIa=>?_) (λIa=>?_)))
  . have bX:i<r.length:=oM
    refine Zb5 ?_;refine Vv (Gives.idx rfl rfl bX) (Rv (enc:=Jz) (l:=zo r.length i) (f:=0) i (RH hi).symm Ha At0 (ags bX) dC rfl rfl rfl rfl (h:=λwb Hb=>?_));rw[adE bX]at Hb;refine Zb0 ?_;refine Vc ((i+1:Nat):Int) ?_;refine Zb1 ?_;exact ak (i+1) tR ⟨oM,Hb⟩ oM
  have qp:i=r.length:=oM;rw[qp,adF]at Ha;refine Zb3 ?_;rw[xk]at Ha ⊢;obtain⟨F0,fZ,iK,aQ⟩:=Ha.focus At0;refine aS (U4 (v:=.slice A l.length m) (by rw[<-xk];exact LG) gW (λw1 h1=>Ha.kept.trans h1 λb hb=>.inr ((iK b hb).resolve_left id)) fZ hn) rfl rfl (λv' wc hv=>?_);obtain⟨ps,rfl,hps,arK,F1,hq,hs⟩:=hv;have Hc:=aQ _ F1 _ arK hq hs;refine Zb2 ?_;exact⟨(_,ps),rfl,hps,Hc.turn⟩
end
end Go.Proofs.YtkfpleidaoaonaaGreatDoor
namespace Go.Proofs.YtkfpleidaoaonaaGreatDoor
open Go Go.Mw Go.Lib
set_option maxRecDepth 4000
attribute [local irreducible] FW FL FG FGn gu gy dh gH Qfn Gives
def adH (A:OA) (c:Nat):Nat->OA
 | 0=>A
 | i+1=>if c-i=1 then adH A c i else(adH A c i).map (·.add 1)
theorem aap {w:Wd} {A:OA} {ps:List Nat} {c:Nat} (h:Mw.Rd w A Jz 1 ps) (hc:ps.length<=c): ∀i,i<=ps.length->Mw.Rd w (adH A c i) Jz 1 (ps.drop i)
 | 0,_=>by rw[zdg];exact h
 | i+1,hi=>by
  have h1:=ajx (c:=c-i) (j:=1) (aap h hc i oM) (by rw[zbu];omega) (by rw[zbu];omega);rw[zfw,Nat.one_mul]at h1;exact h1
theorem cO {α:Type} {w:Wd} {A:OA} {c m k:Nat} {enc:α->LV} {l:List α} (h:aM w (.slice A m c) enc k l):Mw.Rd w A enc k l:=by
 obtain⟨A',c',e,_,hr⟩:=h;injection e with e1 e2 e3
 subst e1;exact hr
def psV (A:OA) (c n i:Nat):Value:=.slice (adH A c i) (n-i) (c-i)
theorem Gives.aqm {P:Program} {ρ:Od->Value} {ty:Td} {w:Wd} {x y:Od} {t e:Td} [ht:dD P t e] {bytes:Nat} [hc:Cells P e 1 bytes] {A:OA} {c n i:Nat} (hx:ρ x=psV A c n i) (hy:ρ y=I 1) (hi:i<n):Gives P ρ (.slice t x (some y) none none) ty w (psV A c n (i+1)) w:=by
 have h:=Gives.sliceFrom (P:=P) (ρ:=ρ) (ty:=ty) (w:=w) (t:=t) (e:=e) (x:=x) (y:=y) (l:=1) hx hy oM;exact h
theorem Gives.al6 {P:Program} {ρ:Od->Value} {ty:Td} {w w0:Wd} {x y:Od} {t e:Td} [ht:dD P t e] {bytes:Nat} [hc:Cells P e 1 bytes] {A:OA} {c j:Nat} {ps:List Nat} (hx:ρ x=psV A c ps.length j) (hy:ρ y=I 0) (hr:Mw.Rd w0 A Jz 1 ps) (hcap:ps.length<=c) (hj:j<ps.length):Gives P ρ (.indexAddr t x y) ty w (adr (adH A c j) 0) w:=by
 have h0:=aap hr hcap j oM;have hl:(ps.drop j).length=ps.length-j:=zbu;exact Gives.mK (i:=0) (by rw[hl];exact hx) hy h0 oM
theorem Gives.agt {P:Program} {ρ:Od->Value} {ty:Td} {w:Wd} {x:Od} {T:Td} [OneCell P T] {A:OA} {c j p:Nat} {ps:List Nat} (hx:ρ x=adr (adH A c j) 0) (hr:Mw.Rd w A Jz 1 ps) (hcap:ps.length<=c) (hj:ps[j]? =some p):Gives P ρ (.load T x) ty w (I p) w:=by
 have h0:=aap hr hcap j (by have:=jk hj;omega);exact Gives.iJ (i:=0) (f:=0) hx (Sep.aL w) h0 (by rw[zct];exact hj) rfl
theorem agu {l:List aH} (hf: ∀o∈l,fits o.w) (r:List aI): -((l.length:Int)*9223372036854775808)<=wtL l r/\wtL l r<=(l.length:Int)*9223372036854775808:=by
 induction l with
 | nil=>exact⟨Int.le_refl _,Int.le_refl _⟩
 | cons x l ih=>
  obtain⟨h1,h2⟩:=ih λo ho=>hf o (zai _ ho);obtain⟨h3,h4⟩:=hf x zah;rw[wtL,zal]
  split<;>omega
theorem ajA {l:List aH} {i:Nat} {o:aH} {r:List aI} (h:l[i]? =some o) (he:o.row=r):wtL (l.take (i+1)) r=wtL (l.take i) r+o.w:=by
 rw[zav,h,gF];show _+((if o.row=r then o.w else 0)+0)=_
 rw[zac he,Int.add_zero]
def aqn (y:Value) (s:Int):Value:=.tuple #[agg (av (y,if gU s=true then s else 0)),I (if gU s=true then 0 else 50)]
section
variable {w:Wd} {F:NP}
theorem agv {b0 b4 b1:Nat} {E0 E4 E1:Td} {A:OA} {c j p0:Nat} {ps:List Nat} {V:Value} {r:List (Value×Int)} {l q:List aH} {x:aH}
    (hp:(star (blk b0 [psV A c ps.length j] E0) (star (blk b4 [V] E4) (blk b1 [V] E1))).ok F w) (hS: ∀w1,Kept F w w1->Mw.Rd w1 A Jz 1 ps) (hc:ps.length<=c)
    (hV: ∀w1,Kept F w w1->aM w1 V av 2 r) (gW: ∀w1,Kept F w w1->fM w1 r l) (hj:ps[j]? =some p0) (hx:l[p0]? =some x) (hq: ∀(i p:Nat),ps[i]? =some p->p<l.length/\l[p]? =q[i]?) (Gd:q.length=ps.length)
    (hn:ps.length<=1000) (hl:l.length<=1000) (hf: ∀o∈q,fits o.w) (uH:x.row.length<=1000):
    aN Tryz.prog 66 [aA b0,aA b4,aA b1] w λu w'=>∃z:Value×Nat,u=aqn z.1 (wtL ((q.drop j).take z.2) x.row)/\(0<z.2/\j+z.2<=ps.length/\(∀o∈(q.drop j).take z.2,o.row=x.row)/\∀o,(q.drop j)[z.2]? =some o->o.row≠x.row)/\
      Turn F (star (bW 52 3 aj z.1 x.row) (star (blk b0 [psV A c ps.length (j+z.2)] E0) (star (blk b4 [V] E4) (blk b1 [V] E1)))) w w':=by
  have H:=((Sep.dZ hp).dG).aJ.dG;have hjl:=jk hj;obtain⟨Zz,hpq⟩:=hq j p0 hj;have hqx:q[j]? =some x:=by rw[<-hpq];exact hx
  have hxq:(q.drop j)[0]? =some x:=by rw[zct];exact hqx
  have hdl:(q.drop j).length=ps.length-j:=by rw[zbu,Gd]
  have hfd: ∀o∈q.drop j,fits o.w:=λo ho=>hf o (zfu ho);obtain⟨B,m,hVe,⟨hBm,qo⟩,_⟩:=hV w (Kept.refl _ _);subst hVe;obtain⟨vx,hvx,Cq⟩:=(gW w (Kept.refl _ _)).get hx;have xk:=(gW w (Kept.refl _ _)).len;obtain⟨E6,hE6⟩: ∃E6,E6=123:=⟨_,rfl⟩;refine VL Tryz.func66 rfl rfl rfl rfl ?_;refine Sr (aW H (h:=λb3 w2 H2 k1=>?_));refine Zb2 ?_;refine Vv (Gives.al6 rfl rfl (hS _ H2.kept) hc hjl) (Vv (Gives.agt rfl (hS _ H2.kept) hc hj) ?_);refine Zb1 ?_;refine aW H2 (h:=λb6 w9 H9 k8=>?_);refine Zb0 ?_;refine aP (λi:Nat=>[(0,aA b0),(1,aA b4),(2,aA b1),(3,aA b3),(4,I 0),(5,I p0),(6,aA b6)]) (λi w'=>(j+i<=ps.length/\∀o∈(q.drop j).take i,o.row=x.row)/\Sep w F [blk b6 (dV (wtL ((q.drop j).take i) x.row)) 123,blk b3 (av (.slice none 0 0,0)) 82,blk b4 [.slice B r.length m] E4,blk b1 [.slice B r.length m] E1,blk b0 [psV A c ps.length (j+i)] E0] w') (λi _=>ps.length-i) 0 tR ⟨⟨oM,λo ho=>by simp at ho⟩,H9⟩ (λi τ wa hI=>?_);obtain⟨⟨hi,lQ⟩,Ha⟩:=hI;have hS1:=hS _ Ha.kept
  try simp only[dA,like,bB,bY]
  refine Zb0 ?_;refine Ds (λSa wb Hb=>?_);refine Zb2 ?_;refine GS (Gn rfl (λ_=>(Gives.gtr (k:=.i64) rfl rfl)) ?_);refine Zb1 ?_;refine fP (t:=15) rfl (λSb=>?_) (λSb=>?_)
  . have bX:j+i<ps.length:=oM
    obtain⟨p1,hp1⟩:=get_some bX;obtain⟨arM,arN⟩:=hq (j+i) p1 hp1;obtain⟨o1,ho1⟩:=get_some arM;have Qo:(q.drop j)[i]? =some o1:=by rw[zct,<-arN];exact ho1
    obtain⟨vo,Qp,Jg⟩:=(gW w (Kept.refl _ _)).get ho1;refine aa6 Sa 4 Hb (h:=?_);refine Zb2 ?_;refine GS (Gn rfl (λ_=>(Gives.al6 rfl rfl (hS _ Hb.kept) hc bX)) ?_);refine GS (Gt rfl (Gives.agt rfl (hS _ Hb.kept) hc hp1) ?_);refine iZ Sa 9 _ Hb (Ol (hV _ Hb.kept) (gW _ Hb.kept) hx ho1) (h:=λwc Hc ka=>⟨sT,?_⟩);refine Za2 ?_;refine dP Sa kR ?_;refine aU (Cp rfl (λIa=>?_) (λIa=>?_))
    . have alo:o1.row=x.row:=by
        have h0:=(jF.eq0 x.row o1.row).1 oM;exact h0.symm
      have arO:=ajA Qo alo
      have aoX: ∀o∈(q.drop j).take (i+1),o.row=x.row:=by
        intro o ho;rw[zav,Qo]at ho
        rcases zbh.1 ho with h | h
        . exact lQ o h
        rw[zdd,zay]at h;rw[h];exact alo
      refine Zb0 ?_;refine Ds (λSc wd Hd=>?_);refine Zb3 ?_;refine GS (Gn rfl (λ_=>(Gives.al6 rfl rfl (hS _ Hd.kept) hc bX)) ?_);refine GS (Gt rfl (Gives.agt rfl (hS _ Hd.kept) hc hp1) ?_);refine GS (Gn rfl (λ_=>(Gives.mK rfl rfl (cO (hV _ Hd.kept)) (jk Qp))) ?_);refine Zb1 ?_;refine GS (Gt rfl (Gives.iJ (f:=1) rfl (Sep.aL _) (cO (hV _ Hd.kept)) Qp rfl) ?_);refine iZ Sc 8 [(0,false)] Hd (UZ o1.w (hfd o1 (zao Qo))) (h:=λwe He kb=>⟨aO He (h:=aK),?_⟩);refine iZ Sc 9 _ He (U0 (wtL ((q.drop j).take i) x.row) o1.w) (h:=λwf Hf kc=>⟨sT,?_⟩);refine eH Sc 10 _ Hf (h:=λwg Hg=>⟨sT,?_⟩);refine Zb1 ?_;refine Vv (Gives.aqm rfl rfl bX) (bM Hg (h:=λwh Hh=>?_));refine Zb0 ?_;exact ak (i+1) tR ⟨⟨oM,aoX⟩,by rw[arO];exact Hh⟩ oM
    refine Zb1 ?_
    have jy:0<i/\∀o,(q.drop j)[i]? =some o->o.row≠x.row:=by
      first
      | exact⟨oM,λo ho=>by have:=jk ho;omega⟩
      | (have iF:nJ x.row o1.row≠0:=oM
         refine⟨Nat.pos_of_ne_zero λh=>iF ?_,λo ho e=>iF ?_⟩
         . subst h;rw[hxq]at Qo;injection Qo with e;rw[<-e];exact jF.self _
         rw[Qo]at ho;injection ho with ho;rw[ho,e];exact jF.self _)
    have hb:=agu (l:=(q.drop j).take i) (λo ho=>hfd o (zbo ho)) x.row;have Qk:((q.drop j).take i).length<=1000:=by rw[zag];omega
    refine aF Hc (U1 (wtL ((q.drop j).take i) x.row) oM oM) (h:=λwi Hi kd=>?_);refine Zb7 ?_;refine Vv (Gives.mK rfl rfl (cO (hV _ Hi.kept)) (jk hvx)) (Zb1 ?_);refine Vv (Gives.iJ (f:=0) rfl (Sep.aL _) (cO (hV _ Hi.kept)) hvx rfl) (dx Hi (sS ((gW _ Hi.kept).2 p0 _ _ hvx hx) uH) (h:=?_));intro y wj _ Hj ke;obtain⟨Ay,cy,rfl,_,_⟩:=Sep.eO Hj At0;refine Mv ?_;refine Vb (av (.slice Ay x.row.length cy,_)) ?_;refine Mv ?_;refine au Hj (h:=λwk Hk=>?_);refine Am ?_;refine Qn (fu (aX (h:=?_)));exact⟨_,jh Hk,(_,i),rfl,⟨jy.1,hi,lQ,jy.2⟩,(Hk.mX.mX.mX.bI.aJ.bI.aJ.bI).first.turn⟩
  refine Zb2 ?_
  have jy:0<i/\∀o,(q.drop j)[i]? =some o->o.row≠x.row:=by
    first
    | exact⟨oM,λo ho=>by have:=jk ho;omega⟩
    | (have iF:nJ x.row o1.row≠0:=oM
       refine⟨Nat.pos_of_ne_zero λh=>iF ?_,λo ho e=>iF ?_⟩
       . subst h;rw[hxq]at Qo;injection Qo with e;rw[<-e];exact jF.self _
       rw[Qo]at ho;injection ho with ho;rw[ho,e];exact jF.self _)
  have hb:=agu (l:=(q.drop j).take i) (λo ho=>hfd o (zbo ho)) x.row;have Qk:((q.drop j).take i).length<=1000:=by rw[zag];omega
  refine aF Hb (U1 (wtL ((q.drop j).take i) x.row) oM oM) (h:=λwl Hl kf=>?_);refine Zb7 ?_;refine Vv (Gives.mK rfl rfl (cO (hV _ Hl.kept)) (jk hvx)) (Zb1 ?_);refine Vv (Gives.iJ (f:=0) rfl (Sep.aL _) (cO (hV _ Hl.kept)) hvx rfl) (dx Hl (sS ((gW _ Hl.kept).2 p0 _ _ hvx hx) uH) (h:=?_));intro y wm _ Hm kg;obtain⟨Ay,cy,rfl,_,_⟩:=Sep.eO Hm At0;refine Mv ?_;refine Vb (av (.slice Ay x.row.length cy,_)) ?_;refine Mv ?_;refine au Hm (h:=λwn Hn=>?_);refine Am ?_;refine Qn (fu (aX (h:=?_)));exact⟨_,jh Hn,(_,i),rfl,⟨jy.1,hi,lQ,jy.2⟩,(Hn.mX.mX.mX.bI.aJ.bI.aJ.bI).first.turn⟩
end
theorem ajB {l:List aH} {ps:List Nat} (hp:ps.Perm (List.range l.length)) (hs:ps.Pairwise λi j=>∀a b,l[i]? =some a->l[j]? =some b->nJ a.row b.row<=0):
    ∃q:List aH,q.length=ps.length/\(∀(i p:Nat),ps[i]? =some p->p<l.length/\l[p]? =q[i]?)/\q.Perm l/\Es q:=by
  have bX: ∀p∈ps,p<l.length:=λp h=>zdl.1 (hp.mem_iff.1 h);refine⟨ps.map λp=>l[p]?.getD ⟨[],0⟩,zae _,λi p h=>⟨bX p (zao h),?_⟩,?_,?_⟩
  . have h1:=bX p (zao h)
    rw[zcf,h,zdf,zaa h1];rfl
  . have h2:=hp.map λp=>l[p]?.getD ⟨[],0⟩
    have e:((List.range l.length).map λp=>l[p]?.getD ⟨[],0⟩)=l:=by
      refine List.ext_getElem sM λi h1 h2=>?_;simp[zaa h2]
    rw[e]at h2;exact h2
  unfold Es;rw[List.pairwise_map];refine hs.imp_of_mem λ{a b} ha hb h=>h _ _ ?_ ?_
  . rw[zaa (bX a ha)];rfl
  rw[zaa (bX b hb)];rfl
section
variable {w:Wd}
theorem Dl {l:List aH} {v:Value} (hl:cZ w v l) (hn:l.length<=1000) (hf: ∀o∈l,fits o.w) (uH: ∀o∈l,o.row.length<=1000):
    aN Tryz.prog 32 [v] w λu w'=>∃x:Value×List Held,u=.tuple #[x.1,I (dY l).2]/\x.2.map (·.2)=(dY l).1/\Turn noB (dR x.1 x.2) w w':=by
  have G8:=hl;obtain⟨r,hr,gW⟩:=hl;have LG:=hr;obtain⟨B,m,rfl,⟨hm,qo⟩,hA⟩:=hr;have xk:=gW.len;have H:=Sep.aL w;refine eP Tryz.func32 rfl rfl rfl rfl ?_;refine Sr (dz H (cs:=[.slice B r.length m]) rfl (h:=λb1 w2 H2 k1=>?_));refine Zb3 ?_;refine aW H2 (h:=λb4 w7 H7 k6=>?_);refine bM H7 (h:=λw9 H9=>?_);refine Zb1 ?_;refine dx H9 (adG (l:=l) (G8.keep H9.kept) hn) (h:=λy wa hy Ha ka=>?_);obtain⟨S,ps⟩:=y;obtain⟨aiL,alp⟩:=hy;dsimp only at Ha aiL alp ⊢;obtain⟨A,c,rfl,hc,_⟩:=Sep.eO Ha At0;have Ha:=iL Ha At0;obtain⟨q,Gd,hq,hqp,hqs⟩:=ajB aiL alp;have Zz:ps.length=l.length:=by rw[aiL.length_eq,zdu]
  have hqf: ∀o∈q,fits o.w:=λo ho=>hf o (hqp.mem_iff.1 ho);refine aW Ha (h:=λb5 wb Hb kb=>?_);refine bM Hb (h:=λwc Hc=>?_);refine Zb2 ?_;have hin:=(Sep.ny (fK Hc) 82 2).mX.mX.fF.mX;refine aP (λx:(OA×Nat)×List Held×Nat=>[(1,aA b1),(2,.slice x.1.1 (eU x.2.1).length x.1.2),(4,aA b4),(5,aA b5),(6,.func (.func 66) #[] #[aA b5,aA b4,aA b1])]) (λx w'=>(zn l (x.2.1.map (·.2)) (q.drop x.2.2)/\x.2.2<=ps.length/\x.2.1.length<=x.2.2)/\Mw.Sep w noB [Kz (.slice A ps.length c) Jz 1 ps,blk b5 [psV A c ps.length x.2.2] 84,blk b4 [.slice B r.length m] 118,blk b1 [.slice B r.length m] 27,bW 82 2 av (.slice x.1.1 (eU x.2.1).length x.1.2) (eU x.2.1),vH 52 3 aj (·.1) (λb:Held=>b.2.row) x.2.1] w') (λx _=>ps.length-x.2.2) ((none,0),[],0) tR ⟨⟨zn.start hqp hqs,zak _,zbf _⟩,hin⟩ (λx τ wd hI=>?_);obtain⟨⟨R,cR⟩,L,j⟩:=x;obtain⟨⟨hNI,MQ,hLj⟩,Hd⟩:=hI;dsimp only at hNI MQ hLj Hd
  try simp only[dA,like,bB,bY]
  refine Za3 ?_;refine Qn (Cp rfl (λIa=>?_) (λIa=>?_))
  . have bX:j<ps.length:=oM
    obtain⟨p0,fZ⟩:=get_some bX;obtain⟨arP,arQ⟩:=hq j p0 fZ;obtain⟨x,hx⟩:=get_some arP;have hqx:(q.drop j)[0]? =some x:=by rw[zct,zfj,<-arQ];exact hx
    refine Zb1 ?_;have He:=Hd.bN.bN.bI.bF.bI.aJ;obtain⟨F0,uI,iK,hX0,aQ⟩:=Sep.al5 He At0;refine fB (fs:=[]) (cs:=[aA b5,aA b4,aA b1]) (vals:=[]) rfl (agv (A:=A) (c:=c) (j:=j) (ps:=ps) (V:=.slice B r.length m) (r:=r) (l:=l) (q:=q) (x:=x) uI (λw1 h1=>cO (hX0 w1 h1).1) hc (λw1 h1=>LG.keep (hX0 w1 h1).2) (λw1 h1=>gW.keep (hX0 w1 h1).2) fZ hx hq Gd oM hn hqf (uH x (zao hx))) rfl rfl (λv' we hv=>?_);obtain⟨⟨y,i⟩,rfl,⟨hi0,hi1,lQ,Jb⟩,arR,F1,jA,jO⟩:=hv;have He:=(aQ _ F1 _ arR jA jO).aJ.dG.aJ.dG.aJ.dG;dsimp only at hi0 hi1 lQ Jb He;obtain⟨Ay,cy,rfl,_,_⟩:=Sep.eO He At3;refine Zb3 ?_;refine aW He (h:=λb7 wf Hf kc=>?_);refine au Hf (h:=λwg Hg=>?_);refine Za3 ?_;refine Qn (Cp rfl (λIb=>?_) (λIb=>?_))
    . have hfz: ¬gU (wtL ((q.drop j).take i) x.row)=true:=λh=>Ib (by rw[zac h])
      have sN:=hNI.bad hqx Jb hfz;refine Zb3 ?_;exact⟨(.slice none 0 0,[]),by rw[sN];exact zaw (λz=>Value.tuple #[Value.slice none 0 0,I z]) (zab hfz),by rw[sN];rfl,(Sep.ny (fK Hg) 82 2).bI.first.turn⟩
    have hfz:gU (wtL ((q.drop j).take i) x.row)=true:=Decidable.of_not_not λh=>by
      have h1:=Ib;rw[zab h]at h1;exact h1 dC
    have Bh:=hNI.step hqx lQ Jb hfz;rw[zfw]at Bh;rw[zac hfz]at Hg;refine Za3 ?_;refine Qn (Cp rfl (λIc=>?_) (λIc=>?_))
    . rw[zac Ic]at Bh
      refine Zb2 ?_;refine Bs Hg ([(Value.slice Ay x.row.length cy,wtL ((q.drop j).take i) x.row)].flatMap av) (λbs wh Hh kd=>?_);have hLr:(eU L).length=L.length:=zae _;refine gP Hh (news:=[(Value.slice Ay x.row.length cy,wtL ((q.drop j).take i) x.row)]) At6 (by unfold maxLen;simp;omega) (by simp;omega) (λu hu=>zaz.1 (show([(Value.slice Ay x.row.length cy,wtL ((q.drop j).take i) x.row)].flatMap av).all Value.oneCell'=true from rfl) u hu) (h:=?_);intro v9 wi Hi;obtain⟨R2,cR2,rfl,_,_⟩:=Sep.eO Hi At6;have hH2:=nN (x:=.slice Ay x.row.length cy) (o:=⟨x.row,wtL ((q.drop j).take i) x.row⟩) (Hi.eF.mM.fF)
      have hLe:eU L++[(Value.slice Ay x.row.length cy,wtL ((q.drop j).take i) x.row)]=eU (L++[(Value.slice Ay x.row.length cy,(⟨x.row,wtL ((q.drop j).take i) x.row⟩:aH))]):=by
        unfold eU;rw[zam];rfl
      have Ke:zn l ((L++[(Value.slice Ay x.row.length cy,(⟨x.row,wtL ((q.drop j).take i) x.row⟩:aH))]).map (·.2)) (q.drop (j+i)):=by rw[zam];exact Bh
      have aoY:(L++[(Value.slice Ay x.row.length cy,(⟨x.row,wtL ((q.drop j).take i) x.row⟩:aH))]).length=L.length+1:=by rw[zad];rfl
      rw[hLe]at hH2 ⊢;clear hLe
      generalize L++[(Value.slice Ay x.row.length cy,(⟨x.row,wtL ((q.drop j).take i) x.row⟩:aH))]=L2 at hH2 Ke aoY |-
      refine Zb1 ?_;exact ak ((R2,cR2),L2,j+i) tR ⟨⟨Ke,hi1,dO⟩,hH2.mX.bN.bN.fF.mX⟩ dO
    rw[zab Ic]at Bh;refine Zb0 ?_;exact ak ((R,cR),L,j+i) tR ⟨⟨Bh,hi1,dO⟩,Hg.eF.bN.eF.bF.bN⟩ dO
  have jy:j=ps.length:=oM;have qR:q.drop j=[]:=zca oM;rw[qR]at hNI;refine Zb3 ?_;exact⟨(_,L),by rw[hNI.done];rfl,by rw[hNI.done],Hd.fF.mX.aJ.bI.first.turn⟩
end
def okN (l:List aH) (i:Nat):Prop:=(∀(k:Nat) x,k<i->l[k]? =some x->x.w≠0)/\∀(k:Nat) x y,k+1<i->l[k]? =some x->l[k+1]? =some y->nJ x.row y.row<0
theorem agw (l:List aH):okN l 0:=⟨λ_ _ h=>zat h (zen _),λ_ _ _ h=>zat h (zen _)⟩
theorem XB {l:List aH} {i:Nat} {o:aH} (h:okN l i) (ho:l[i]? =some o) (h0:o.w≠0) (h1:i=0\/∃p,l[i-1]? =some p/\nJ p.row o.row<0):okN l (i+1):=by
 refine⟨λk x hk hx=>?_,λk x y hk hx hy=>?_⟩
 .by_cases e:k=i
  .subst e;rw[ho]at hx;injection hx with hx;rw[<-hx];exact h0
  exact h.1 k x oM hx
 by_cases e:k+1=i
 .rcases h1 with h1 | ⟨p,hp,bX⟩
  .omega
  rw[e,ho]at hy;injection hy with hy
  rw[<-e,Nat.add_sub_cancel,hx]at hp;injection hp with hp
  rw[<-hy,hp];exact bX
 exact h.2 k x y oM hx hy
theorem ajC {l:List aH} {i:Nat} (h:okN l i) (hi:l.length<=i):oQ l=true:=
 Jy.2 ⟨λx hx=>by
  obtain⟨k,hk,e⟩:=zgd hx;exact h.1 k x oM (by rw[zaa hk,e]),λk x y hx hy=>h.2 k x y (by have:=jk hy;omega) hx hy⟩
section
variable {w:Wd}
theorem KN {l:List aH} {v:Value} (hl:cZ w v l) (hn:l.length<=1000):aN Tryz.prog 31 [v] w λu w'=>u=I (if oQ l=true then 0 else 2)/\Kept noB w w':=by
 obtain⟨r,hr,gW⟩:=hl;have LG:=hr;obtain⟨A,m,rfl,⟨hm,qo⟩,hA⟩:=hr;have xk:=gW.len;have H:=Sep.aL w;refine eP Tryz.func31 rfl rfl rfl rfl ?_;refine Zb4 ?_;refine aP (λi:Nat=>[(0,.slice A r.length m),(5,.slice A r.length m),(6,I r.length),(7,I i)]) (λi w'=>(i<=r.length/\okN l i)/\Mw.Sep w noB [] w') (λi _=>r.length-i) 0 tR ⟨⟨zak _,agw l⟩,H⟩ (λi τ w6 hI=>?_);obtain⟨⟨hi,gT⟩,H6⟩:=hI
 try simp only[dA,like,bB,bY]
 refine Za1 ?_;refine Qn (fC (Cp rfl (λy8=>?_) (λy8=>?_)))
 .have bX:i<r.length:=oM
  have MR:i<l.length:=oM;obtain⟨o,ho⟩:=get_some MR;obtain⟨vo,Qp,Jg⟩:=gW.get ho;obtain⟨Ao,co,rfl,_,_⟩:=Jg;refine Zb3 ?_;refine aW H6 (h:=λb4 wa Ha ka=>?_);refine Am ?_;refine au Ha (h:=λwb Hb=>?_);refine Zb4 ?_;refine aC (t:=15) rfl (λSa=>?_) (λSa=>?_)
  .refine Zb2 ?_
   have hb: ¬oQ l=true:=λh=>by
    have h2:=Jy.1 h
    first
    | exact h2.1 o (zao ho) oM
    | (have h3:=h2.2 (i-1) p o Rh (by rw[Nat.sub_add_cancel oM];exact ho);omega)
   exact⟨by rw[zab hb];rfl,Hb.kept⟩
  refine Zb3 ?_;refine aC (t:=18) rfl (λSb=>?_) (λSb=>?_)
  .refine Zb2 ?_
   obtain⟨p,Rh⟩:=get_some (l:=l) (show i-1<l.length from oM);refine Vc ((i-1:Nat):Int) ?_;refine Zb1 ?_;refine aF Hb (Ol (LG.keep Hb.kept) (gW.keep Hb.kept) Rh ho) (h:=λwc Hc kb=>?_);refine Za3 ?_;refine Qn (Cp rfl (λIa=>?_) (λIa=>?_))
   .refine Zb1 ?_
    have hb: ¬oQ l=true:=λh=>by
     have h2:=Jy.1 h
     first
     | exact h2.1 o (zao ho) oM
     | (have h3:=h2.2 (i-1) p o Rh (by rw[Nat.sub_add_cancel oM];exact ho);omega)
    exact⟨by rw[zab hb];rfl,Hc.kept⟩
   refine Zb0 ?_;refine Vc ((i+1:Nat):Int) ?_;refine Zb1 ?_;exact ak (i+1) tR ⟨⟨oM,XB gT ho oM (by first | exact .inl oM | exact .inr ⟨p,Rh,oM⟩)⟩,Hc.eF⟩ oM
  refine Zb2 ?_;refine Vc ((i+1:Nat):Int) ?_;refine Zb1 ?_;exact ak (i+1) tR ⟨⟨oM,XB gT ho oM (by first | exact .inl oM | exact .inr ⟨p,Rh,oM⟩)⟩,Hb.eF⟩ oM
 have jy:l.length<=i:=oM;refine Zb1 ?_;exact⟨by rw[zac (ajC gT jy)];rfl,H6.kept⟩
end
def shl:Int->Nat->Int
 | v,0=>v
 | v,i+1=>shl v i/4294967296
end Go.Proofs.YtkfpleidaoaonaaGreatDoor
