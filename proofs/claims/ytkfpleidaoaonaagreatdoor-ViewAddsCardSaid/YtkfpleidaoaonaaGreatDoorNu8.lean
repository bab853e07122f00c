/-
 The table of kinds,and whether a cell is of a type,walked.
-/
import Derived.Test.YtkfpleidaoaonaaGreatDoorNu1
import Derived.Test.YtkfpleidaoaonaaGreatDoorNu3
import Derived.Test.YtkfpleidaoaonaaGreatDoorNu7
set_option linter.unusedVariables false
set_option linter.unusedSimpArgs false
namespace Go.Proofs.YtkfpleidaoaonaaGreatDoor
open Go Go.Mw Go.Lib
set_option maxRecDepth 4000
attribute [local irreducible] FW FL FG FGn gu gy dh gH Qfn Gives
section
variable {w:Wd}
def mq (p q:Nat):Value:=.func (.func 267) #[] #[.pointer (some ⟨p,0,none⟩),.pointer (some ⟨q,0,none⟩)]
theorem five {α:Type} {l:List α} (h:l.length=5): ∃a b c d e,l=[a,b,c,d,e]:=by
 match l,h with
 | [a,b,c,d,e],_=>exact⟨a,b,c,d,e,rfl⟩
theorem EW {ρ:Od->Value} {x1 x2 x3 x4 x5:Od} {r1 r2 r3 r4 r5:LV} (l1:r1.length=5) (l2:r2.length=5) (l3:r3.length=5) (l4:r4.length=5) (l5:r5.length=5)
    (h1:ρ x1=.agg r1.toArray) (h2:ρ x2=.agg r2.toArray) (h3:ρ x3=.agg r3.toArray) (h4:ρ x4=.agg r4.toArray) (h5:ρ x5=.agg r5.toArray):
    Fills (λi:Nat=>some (i*5,5)) ρ [(1,x1),(2,x2),(3,x3),(4,x4),(5,x5)] (List.replicate 30 .nilFunc) (List.replicate 5 .nilFunc++r1++r2++r3++r4++r5):=by
  obtain⟨a1,b1,c1,d1,e1,rfl⟩:=five l1;obtain⟨a2,b2,c2,d2,e2,rfl⟩:=five l2;obtain⟨a3,b3,c3,d3,e3,rfl⟩:=five l3;obtain⟨a4,b4,c4,d4,e4,rfl⟩:=five l4;obtain⟨a5,b5,c5,d5,e5,rfl⟩:=five l5;refine Fills.many rfl h1 (zbc rfl) rfl ?_;refine Fills.many rfl h2 (zbc rfl) rfl ?_;refine Fills.many rfl h3 (zbc rfl) rfl ?_;refine Fills.many rfl h4 (zbc rfl) rfl ?_;refine Fills.many rfl h5 (zbc rfl) rfl ?_;rfl
def vJ (p1 q1 p2 q2 p3 q3 b2:Nat):LV:=List.replicate 5 .nilFunc++(mq p1 q1::kF1)++(mq p2 q2::kF2)++(mq p3 q3::kF2)++(Value.func (.func 277) #[] #[.pointer (some ⟨b2,0,none⟩)]::kF4)++(oN 268::kF5)
theorem mD {k lo hi:Int} {p q:Nat} (h1:w.heap[p]? =some (.cells #[I lo] 2 (0,0))) (h2:w.heap[q]? =some (.cells #[I hi] 2 (0,0))) (hp: ∀c,isP k c=decide (c.s=[]/\lo<=c.n/\c.n<=hi)):vX w (mq p q) (λc=>agg (aj c)) (isP k):=
 ⟨267,[],[_,_],rfl,inferInstance,λc w'' hk=>by rw[hp];exact ae6 c (hk.get h1 id) (hk.get h2 id)⟩
theorem EX {b:Nat} {E:Td} (hb:w.heap[b]? =some (.cells #[oN 268] E (0,0))) (hT:pO w):vX w (.func (.func 277) #[] #[.pointer (some ⟨b,0,none⟩)]) (λc=>agg (aj c)) (isP 4):=
 ⟨277,[],[_],rfl,inferInstance,λc w'' hk=>ae7 c (hk.get hb id) (hT.keep hk)⟩
theorem EY:vX w (oN 268) (λc=>agg (aj c)) (isP 5):=
 ⟨268,[],[],rfl,inferInstance,λc w'' _=>acR c⟩
theorem nE (k:Int):(sZ k).length=4:=by unfold sZ;(repeat' split)<;>rfl
theorem EZ (k:Int):(sZ k).all Value.oneCell'=true:=by unfold sZ;(repeat' split)<;>rfl
theorem ahZ (t:dJ) (h1:1<=t.kind) (h5:t.kind<=5) (hT:pO w):aN Tryz.prog 202 [agg (bD t)] w λv w'=>(∃isF,v=agg (isF::sZ t.kind)/\vX w' isF (λc=>agg (aj c)) (isP t.kind))/\Kept noB w w':=by
 have H:=Sep.aL w;refine sI Tryz.func202 rfl rfl rfl rfl ?_;refine Sr (dz H (cs:=bD t) rfl (h:=λb0 w2 H2 k0=>?_));refine aW H2 (h:=λb1 w4 H4 k3=>?_);refine Zb1 ?_;refine aW H4 (h:=λb2 w7 H7 k6=>?_);refine bM H7 (h:=λw9 H9=>?_);refine Zb0 ?_;refine Ds (λSa wa Ha=>?_);refine Zb1 ?_;refine Gm Sa 3 ?_;refine Gm Sa 6 ?_;refine Gp Sa 9 rfl rfl (λ_=>(Gives.makeFunc rfl rfl)) (GS (Gn rfl (λ_=>(Gives.build (out:=(Value.func (.func 277) #[] #[.pointer (some ⟨b2,0,none⟩)])::kF4) (Fills.one rfl rfl rfl sM rfl (Fills.one rfl rfl rfl sM rfl (Fills.one rfl rfl rfl sM rfl (Fills.one rfl rfl rfl sM rfl (Fills.one rfl rfl rfl sM rfl Fills.nil))))))) ?_));refine Zb1 ?_;refine GS (Gn rfl (λ_=>(Gives.build (out:=(oN 268)::kF5) (Fills.one rfl rfl rfl sM rfl (Fills.one rfl rfl rfl sM rfl (Fills.one rfl rfl rfl sM rfl (Fills.one rfl rfl rfl sM rfl (Fills.one rfl rfl rfl sM rfl Fills.nil))))))) ?_);refine jK Sa (e1:=1) (e2:=14) kR ?_ ?_
 .refine lN Sa 1 [(12,true),(11,false),(10,true),(9,true),(6,true),(3,true)] (y:=.tmp 6) (f:=266) (fs:=[]) (cs:=[]) (vals:=[I 0,I 1]) rfl (uf 0 1) (h:=λv' wb hv=>?_)
  obtain⟨p1,q1,rfl,eB,F',hq,jw⟩:=hv;have Hb:=(Ha.new eB hq λb hb=>(jw b hb).resolve_left id).dG;refine⟨ah (aY Hb (h:=ah (ah (ah (ah (aK)))))),?_⟩;refine GS (Gn rfl (λ_=>(Gives.build (out:=(mq p1 q1)::kF1) (Fills.one rfl rfl rfl sM rfl (Fills.one rfl rfl rfl sM rfl (Fills.one rfl rfl rfl sM rfl (Fills.one rfl rfl rfl sM rfl (Fills.one rfl rfl rfl sM rfl Fills.nil))))))) ?_);refine jK Sa (e1:=4) (e2:=14) kR ?_ ?_
  .refine lN Sa 4 [(2,true),(12,true),(11,false),(10,true),(9,true),(6,true)] (y:=.tmp 9) (f:=266) (fs:=[]) (cs:=[]) (vals:=[I (-2147483648),I 2147483647]) rfl (uf (-2147483648) 2147483647) (h:=λv' wc hv=>?_)
   obtain⟨p2,q2,rfl,eB,F',hq,jw⟩:=hv;have Hc:=(Hb.new eB hq λb hb=>(jw b hb).resolve_left id).dG;refine⟨ah (ah (aY Hc (h:=ah (ah (ah (aK)))))),?_⟩;refine GS (Gn rfl (λ_=>(Gives.build (out:=(mq p2 q2)::kF2) (Fills.one rfl rfl rfl sM rfl (Fills.one rfl rfl rfl sM rfl (Fills.one rfl rfl rfl sM rfl (Fills.one rfl rfl rfl sM rfl (Fills.one rfl rfl rfl sM rfl Fills.nil))))))) ?_);refine jK Sa (e1:=7) (e2:=14) kR ?_ ?_
   .refine lN Sa 7 [(5,true),(2,true),(12,true),(11,false),(10,true),(9,true)] (y:=.tmp 12) (f:=266) (fs:=[]) (cs:=[]) (vals:=[I (-9223372036854775808),I 9223372036854775807]) rfl (uf (-9223372036854775808) 9223372036854775807) (h:=λv' wd hv=>?_)
    obtain⟨p3,q3,rfl,eB,F',hq,jw⟩:=hv;have Hd:=(Hc.new eB hq λb hb=>(jw b hb).resolve_left id).dG;refine⟨ah (ah (ah (aY Hd (h:=ah (ah (aK)))))),?_⟩;refine GS (Gn rfl (λ_=>(Gives.build (out:=(mq p3 q3)::kF2) (Fills.one rfl rfl rfl sM rfl (Fills.one rfl rfl rfl sM rfl (Fills.one rfl rfl rfl sM rfl (Fills.one rfl rfl rfl sM rfl (Fills.one rfl rfl rfl sM rfl Fills.nil))))))) ?_);refine Gp Sa 13 rfl rfl (λ_=>(Gives.Pw (out:=vJ p1 q1 p2 q2 p3 q3 b2) rfl (EW rfl rfl rfl rfl rfl rfl rfl rfl rfl rfl))) (xE Sa 14 [(13,true),(8,true),(5,true),(2,true),(12,true),(11,false),(10,true),(9,true)] Hd (h:=λb5 we He=>⟨ah (ah (ah (ah (ah (aY He (h:=ah (ah (aK)))))))),?_⟩));refine eH Sa 15 _ He (h:=λwf Hf=>⟨sT,?_⟩);refine Zb0 ?_;have ZN:((t.kind.toNat:Nat):Int)=t.kind:=zcw oM
    obtain⟨isV,p9,rA,yU⟩: ∃isV:Value,((t.kind=1/\isV=mq p1 q1)\/(t.kind=2/\isV=mq p2 q2)\/(t.kind=3/\isV=mq p3 q3)\/(t.kind=4/\isV=Value.func (.func 277) #[] #[.pointer (some ⟨b2,0,none⟩)])\/(t.kind=5/\isV=oN 268))/\isV.oneCell'=true/\((vJ p1 q1 p2 q2 p3 q3 b2).drop (0+t.kind.toNat*5)).take 5=isV::sZ t.kind:=by
     rcases (by omega :t.kind=1\/t.kind=2\/t.kind=3\/t.kind=4\/t.kind=5)with e | e | e | e | e<;>rw[e]
     .exact⟨_,.inl ⟨rfl,rfl⟩,rfl,rfl⟩
     .exact⟨_,.inr (.inl ⟨rfl,rfl⟩),rfl,rfl⟩
     .exact⟨_,.inr (.inr (.inl ⟨rfl,rfl⟩)),rfl,rfl⟩
     .exact⟨_,.inr (.inr (.inr (.inl ⟨rfl,rfl⟩))),rfl,rfl⟩
     exact⟨_,.inr (.inr (.inr (.inr ⟨rfl,rfl⟩))),rfl,rfl⟩
    refine Vf ?_;refine Zb1 ?_;refine Vv (Gives.BI (i:=t.kind.toNat) rfl (by rw[ZN];rfl) oM) ?_;refine yx (us:=isV::sZ t.kind) (o:=0+t.kind.toNat*5) (b:=b5) Hf (hx:=by rw[<-Addr.add_lit];rfl) (hat:=by exact aT) (hu:=yU) (hk:=by rw[zal,nE]) (h:=?_);refine au Hf (us:=isV::sZ t.kind) (hk:=by rw[zal,nE]) (hv:=by rw[List.all_cons,rA,EZ];rfl) (h:=λwg Hg=>?_);refine Qn (fu (aX (h:=?_)));refine⟨_,jg Hg (hk:=by rw[zal,nE]),⟨isV,rfl,?_⟩,Hg.kept⟩
    rcases p9 with⟨e,rfl⟩ | ⟨e,rfl⟩ | ⟨e,rfl⟩ | ⟨e,rfl⟩ | ⟨e,rfl⟩<;>rw[e]
    .exact mD (by first | exact Hg.obj At0 | exact Hg.obj At2 | exact Hg.obj At4 | exact Hg.obj At1 | exact Hg.obj At3 | exact Hg.obj At5 | exact Hg.obj At6 | exact Hg.obj At7) (by first | exact Hg.obj At0 | exact Hg.obj At2 | exact Hg.obj At4 | exact Hg.obj At1 | exact Hg.obj At3 | exact Hg.obj At5 | exact Hg.obj At6 | exact Hg.obj At7) (λc=>rfl)
    .exact mD (by first | exact Hg.obj At0 | exact Hg.obj At2 | exact Hg.obj At4 | exact Hg.obj At1 | exact Hg.obj At3 | exact Hg.obj At5 | exact Hg.obj At6 | exact Hg.obj At7) (by first | exact Hg.obj At0 | exact Hg.obj At2 | exact Hg.obj At4 | exact Hg.obj At1 | exact Hg.obj At3 | exact Hg.obj At5 | exact Hg.obj At6 | exact Hg.obj At7) (λc=>rfl)
    .exact mD (by first | exact Hg.obj At0 | exact Hg.obj At2 | exact Hg.obj At4 | exact Hg.obj At1 | exact Hg.obj At3 | exact Hg.obj At5 | exact Hg.obj At6 | exact Hg.obj At7) (by first | exact Hg.obj At0 | exact Hg.obj At2 | exact Hg.obj At4 | exact Hg.obj At1 | exact Hg.obj At3 | exact Hg.obj At5 | exact Hg.obj At6 | exact Hg.obj At7) (λc=>rfl)
    .exact EX (by first | exact Hg.obj At7 | exact Hg.obj At6 | exact Hg.obj At5 | exact Hg.obj At4) (hT.keep Hg.kept)
    exact EY
   refine ni Sa 14 [(5,true),(2,true),(12,true),(11,false),(10,true),(9,true),(6,true)] Hc (h:=λb5 wh Hh=>⟨ah (ah (ah (aY Hh (h:=ah (ah (ah (aK))))))),?_⟩);refine jc Sa 7 [(5,true),(2,true),(12,true),(11,false),(10,true),(9,true)] (y:=.tmp 12) (f:=266) (fs:=[]) (cs:=[]) (vals:=[I (-9223372036854775808),I 9223372036854775807]) rfl (uf (-9223372036854775808) 9223372036854775807) (h:=λv' wi hv=>?_);obtain⟨p3,q3,rfl,eB,F',hq,jw⟩:=hv;have Hi:=(Hh.new eB hq λb hb=>(jw b hb).resolve_left id).dG;refine⟨ah (ah (ah (aY Hi (h:=ah (ah (aK)))))),?_⟩;refine GS (Gn rfl (λ_=>(Gives.build (out:=(mq p3 q3)::kF2) (Fills.one rfl rfl rfl sM rfl (Fills.one rfl rfl rfl sM rfl (Fills.one rfl rfl rfl sM rfl (Fills.one rfl rfl rfl sM rfl (Fills.one rfl rfl rfl sM rfl Fills.nil))))))) ?_);refine Gp Sa 13 rfl rfl (λ_=>(Gives.Pw (out:=vJ p1 q1 p2 q2 p3 q3 b2) rfl (EW rfl rfl rfl rfl rfl rfl rfl rfl rfl rfl))) (eH Sa 15 _ Hi (h:=λwj Hj=>⟨sT,?_⟩));refine Zb0 ?_;have ZN:((t.kind.toNat:Nat):Int)=t.kind:=zcw oM
   obtain⟨isV,p9,rA,yU⟩: ∃isV:Value,((t.kind=1/\isV=mq p1 q1)\/(t.kind=2/\isV=mq p2 q2)\/(t.kind=3/\isV=mq p3 q3)\/(t.kind=4/\isV=Value.func (.func 277) #[] #[.pointer (some ⟨b2,0,none⟩)])\/(t.kind=5/\isV=oN 268))/\isV.oneCell'=true/\((vJ p1 q1 p2 q2 p3 q3 b2).drop (0+t.kind.toNat*5)).take 5=isV::sZ t.kind:=by
    rcases (by omega :t.kind=1\/t.kind=2\/t.kind=3\/t.kind=4\/t.kind=5)with e | e | e | e | e<;>rw[e]
    .exact⟨_,.inl ⟨rfl,rfl⟩,rfl,rfl⟩
    .exact⟨_,.inr (.inl ⟨rfl,rfl⟩),rfl,rfl⟩
    .exact⟨_,.inr (.inr (.inl ⟨rfl,rfl⟩)),rfl,rfl⟩
    .exact⟨_,.inr (.inr (.inr (.inl ⟨rfl,rfl⟩))),rfl,rfl⟩
    exact⟨_,.inr (.inr (.inr (.inr ⟨rfl,rfl⟩))),rfl,rfl⟩
   refine Vf ?_;refine Zb1 ?_;refine Vv (Gives.BI (i:=t.kind.toNat) rfl (by rw[ZN];rfl) oM) ?_;refine yx (us:=isV::sZ t.kind) (o:=0+t.kind.toNat*5) (b:=b5) Hj (hx:=by rw[<-Addr.add_lit];rfl) (hat:=by exact aT) (hu:=yU) (hk:=by rw[zal,nE]) (h:=?_);refine au Hj (us:=isV::sZ t.kind) (hk:=by rw[zal,nE]) (hv:=by rw[List.all_cons,rA,EZ];rfl) (h:=λwk Hk=>?_);refine Qn (fu (aX (h:=?_)));refine⟨_,jg Hk (hk:=by rw[zal,nE]),⟨isV,rfl,?_⟩,Hk.kept⟩
   rcases p9 with⟨e,rfl⟩ | ⟨e,rfl⟩ | ⟨e,rfl⟩ | ⟨e,rfl⟩ | ⟨e,rfl⟩<;>rw[e]
   .exact mD (by first | exact Hk.obj At0 | exact Hk.obj At2 | exact Hk.obj At4 | exact Hk.obj At1 | exact Hk.obj At3 | exact Hk.obj At5 | exact Hk.obj At6 | exact Hk.obj At7) (by first | exact Hk.obj At0 | exact Hk.obj At2 | exact Hk.obj At4 | exact Hk.obj At1 | exact Hk.obj At3 | exact Hk.obj At5 | exact Hk.obj At6 | exact Hk.obj At7) (λc=>rfl)
   .exact mD (by first | exact Hk.obj At0 | exact Hk.obj At2 | exact Hk.obj At4 | exact Hk.obj At1 | exact Hk.obj At3 | exact Hk.obj At5 | exact Hk.obj At6 | exact Hk.obj At7) (by first | exact Hk.obj At0 | exact Hk.obj At2 | exact Hk.obj At4 | exact Hk.obj At1 | exact Hk.obj At3 | exact Hk.obj At5 | exact Hk.obj At6 | exact Hk.obj At7) (λc=>rfl)
   .exact mD (by first | exact Hk.obj At0 | exact Hk.obj At2 | exact Hk.obj At4 | exact Hk.obj At1 | exact Hk.obj At3 | exact Hk.obj At5 | exact Hk.obj At6 | exact Hk.obj At7) (by first | exact Hk.obj At0 | exact Hk.obj At2 | exact Hk.obj At4 | exact Hk.obj At1 | exact Hk.obj At3 | exact Hk.obj At5 | exact Hk.obj At6 | exact Hk.obj At7) (λc=>rfl)
   .exact EX (by first | exact Hk.obj At7 | exact Hk.obj At6 | exact Hk.obj At5 | exact Hk.obj At4) (hT.keep Hk.kept)
   exact EY
  refine ni Sa 14 [(2,true),(12,true),(11,false),(10,true),(9,true),(6,true),(3,true)] Hb (h:=λb5 wl Hl=>⟨ah (ah (aY Hl (h:=ah (ah (ah (ah (aK))))))),?_⟩);refine jc Sa 4 [(2,true),(12,true),(11,false),(10,true),(9,true),(6,true)] (y:=.tmp 9) (f:=266) (fs:=[]) (cs:=[]) (vals:=[I (-2147483648),I 2147483647]) rfl (uf (-2147483648) 2147483647) (h:=λv' wm hv=>?_);obtain⟨p2,q2,rfl,eB,F',hq,jw⟩:=hv;have Hm:=(Hl.new eB hq λb hb=>(jw b hb).resolve_left id).dG;refine⟨ah (ah (aY Hm (h:=ah (ah (ah (aK)))))),?_⟩;refine GS (Gn rfl (λ_=>(Gives.build (out:=(mq p2 q2)::kF2) (Fills.one rfl rfl rfl sM rfl (Fills.one rfl rfl rfl sM rfl (Fills.one rfl rfl rfl sM rfl (Fills.one rfl rfl rfl sM rfl (Fills.one rfl rfl rfl sM rfl Fills.nil))))))) ?_);refine jc Sa 7 [(5,true),(2,true),(12,true),(11,false),(10,true),(9,true)] (y:=.tmp 12) (f:=266) (fs:=[]) (cs:=[]) (vals:=[I (-9223372036854775808),I 9223372036854775807]) rfl (uf (-9223372036854775808) 9223372036854775807) (h:=λv' wn hv=>?_);obtain⟨p3,q3,rfl,eB,F',hq,jw⟩:=hv;have Hn:=(Hm.new eB hq λb hb=>(jw b hb).resolve_left id).dG;refine⟨ah (ah (ah (aY Hn (h:=ah (ah (aK)))))),?_⟩;refine GS (Gn rfl (λ_=>(Gives.build (out:=(mq p3 q3)::kF2) (Fills.one rfl rfl rfl sM rfl (Fills.one rfl rfl rfl sM rfl (Fills.one rfl rfl rfl sM rfl (Fills.one rfl rfl rfl sM rfl (Fills.one rfl rfl rfl sM rfl Fills.nil))))))) ?_);refine Gp Sa 13 rfl rfl (λ_=>(Gives.Pw (out:=vJ p1 q1 p2 q2 p3 q3 b2) rfl (EW rfl rfl rfl rfl rfl rfl rfl rfl rfl rfl))) (eH Sa 15 _ Hn (h:=λwo Ho=>⟨sT,?_⟩))
  refine Zb0 ?_;have ZN:((t.kind.toNat:Nat):Int)=t.kind:=zcw oM
  obtain⟨isV,p9,rA,yU⟩: ∃isV:Value,((t.kind=1/\isV=mq p1 q1)\/(t.kind=2/\isV=mq p2 q2)\/(t.kind=3/\isV=mq p3 q3)\/(t.kind=4/\isV=Value.func (.func 277) #[] #[.pointer (some ⟨b2,0,none⟩)])\/(t.kind=5/\isV=oN 268))/\isV.oneCell'=true/\((vJ p1 q1 p2 q2 p3 q3 b2).drop (0+t.kind.toNat*5)).take 5=isV::sZ t.kind:=by
   rcases (by omega :t.kind=1\/t.kind=2\/t.kind=3\/t.kind=4\/t.kind=5)with e | e | e | e | e<;>rw[e]
   .exact⟨_,.inl ⟨rfl,rfl⟩,rfl,rfl⟩
   .exact⟨_,.inr (.inl ⟨rfl,rfl⟩),rfl,rfl⟩
   .exact⟨_,.inr (.inr (.inl ⟨rfl,rfl⟩)),rfl,rfl⟩
   .exact⟨_,.inr (.inr (.inr (.inl ⟨rfl,rfl⟩))),rfl,rfl⟩
   exact⟨_,.inr (.inr (.inr (.inr ⟨rfl,rfl⟩))),rfl,rfl⟩
  refine Vf ?_;refine Zb1 ?_;refine Vv (Gives.BI (i:=t.kind.toNat) rfl (by rw[ZN];rfl) oM) ?_;refine yx (us:=isV::sZ t.kind) (o:=0+t.kind.toNat*5) (b:=b5) Ho (hx:=by rw[<-Addr.add_lit];rfl) (hat:=by exact aT) (hu:=yU) (hk:=by rw[zal,nE]) (h:=?_);refine au Ho (us:=isV::sZ t.kind) (hk:=by rw[zal,nE]) (hv:=by rw[List.all_cons,rA,EZ];rfl) (h:=λwp Hp=>?_);refine Qn (fu (aX (h:=?_)));refine⟨_,jg Hp (hk:=by rw[zal,nE]),⟨isV,rfl,?_⟩,Hp.kept⟩
  rcases p9 with⟨e,rfl⟩ | ⟨e,rfl⟩ | ⟨e,rfl⟩ | ⟨e,rfl⟩ | ⟨e,rfl⟩<;>rw[e]
  .exact mD (by first | exact Hp.obj At0 | exact Hp.obj At2 | exact Hp.obj At4 | exact Hp.obj At1 | exact Hp.obj At3 | exact Hp.obj At5 | exact Hp.obj At6 | exact Hp.obj At7) (by first | exact Hp.obj At0 | exact Hp.obj At2 | exact Hp.obj At4 | exact Hp.obj At1 | exact Hp.obj At3 | exact Hp.obj At5 | exact Hp.obj At6 | exact Hp.obj At7) (λc=>rfl)
  .exact mD (by first | exact Hp.obj At0 | exact Hp.obj At2 | exact Hp.obj At4 | exact Hp.obj At1 | exact Hp.obj At3 | exact Hp.obj At5 | exact Hp.obj At6 | exact Hp.obj At7) (by first | exact Hp.obj At0 | exact Hp.obj At2 | exact Hp.obj At4 | exact Hp.obj At1 | exact Hp.obj At3 | exact Hp.obj At5 | exact Hp.obj At6 | exact Hp.obj At7) (λc=>rfl)
  .exact mD (by first | exact Hp.obj At0 | exact Hp.obj At2 | exact Hp.obj At4 | exact Hp.obj At1 | exact Hp.obj At3 | exact Hp.obj At5 | exact Hp.obj At6 | exact Hp.obj At7) (by first | exact Hp.obj At0 | exact Hp.obj At2 | exact Hp.obj At4 | exact Hp.obj At1 | exact Hp.obj At3 | exact Hp.obj At5 | exact Hp.obj At6 | exact Hp.obj At7) (λc=>rfl)
  .exact EX (by first | exact Hp.obj At7 | exact Hp.obj At6 | exact Hp.obj At5 | exact Hp.obj At4) (hT.keep Hp.kept)
  exact EY
 refine ni Sa 14 [(12,true),(11,false),(10,true),(9,true),(6,true),(3,true),(0,true)] Ha (h:=λb5 wq Hq=>⟨ah (aY Hq (h:=ah (ah (ah (ah (ah (aK))))))),?_⟩);refine jc Sa 1 [(12,true),(11,false),(10,true),(9,true),(6,true),(3,true)] (y:=.tmp 6) (f:=266) (fs:=[]) (cs:=[]) (vals:=[I 0,I 1]) rfl (uf 0 1) (h:=λv' wr hv=>?_);obtain⟨p1,q1,rfl,eB,F',hq,jw⟩:=hv;have Hr:=(Hq.new eB hq λb hb=>(jw b hb).resolve_left id).dG;refine⟨ah (aY Hr (h:=ah (ah (ah (ah (aK)))))),?_⟩;refine GS (Gn rfl (λ_=>(Gives.build (out:=(mq p1 q1)::kF1) (Fills.one rfl rfl rfl sM rfl (Fills.one rfl rfl rfl sM rfl (Fills.one rfl rfl rfl sM rfl (Fills.one rfl rfl rfl sM rfl (Fills.one rfl rfl rfl sM rfl Fills.nil))))))) ?_);refine jc Sa 4 [(2,true),(12,true),(11,false),(10,true),(9,true),(6,true)] (y:=.tmp 9) (f:=266) (fs:=[]) (cs:=[]) (vals:=[I (-2147483648),I 2147483647]) rfl (uf (-2147483648) 2147483647) (h:=λv' ws hv=>?_);obtain⟨p2,q2,rfl,eB,F',hq,jw⟩:=hv;have Hs:=(Hr.new eB hq λb hb=>(jw b hb).resolve_left id).dG;refine⟨ah (ah (aY Hs (h:=ah (ah (ah (aK)))))),?_⟩;refine GS (Gn rfl (λ_=>(Gives.build (out:=(mq p2 q2)::kF2) (Fills.one rfl rfl rfl sM rfl (Fills.one rfl rfl rfl sM rfl (Fills.one rfl rfl rfl sM rfl (Fills.one rfl rfl rfl sM rfl (Fills.one rfl rfl rfl sM rfl Fills.nil))))))) ?_);refine jc Sa 7 [(5,true),(2,true),(12,true),(11,false),(10,true),(9,true)] (y:=.tmp 12) (f:=266) (fs:=[]) (cs:=[]) (vals:=[I (-9223372036854775808),I 9223372036854775807]) rfl (uf (-9223372036854775808) 9223372036854775807) (h:=λv' wt hv=>?_)
 obtain⟨p3,q3,rfl,eB,F',hq,jw⟩:=hv;have Ht:=(Hs.new eB hq λb hb=>(jw b hb).resolve_left id).dG;refine⟨ah (ah (ah (aY Ht (h:=ah (ah (aK)))))),?_⟩;refine GS (Gn rfl (λ_=>(Gives.build (out:=(mq p3 q3)::kF2) (Fills.one rfl rfl rfl sM rfl (Fills.one rfl rfl rfl sM rfl (Fills.one rfl rfl rfl sM rfl (Fills.one rfl rfl rfl sM rfl (Fills.one rfl rfl rfl sM rfl Fills.nil))))))) ?_);refine Gp Sa 13 rfl rfl (λ_=>(Gives.Pw (out:=vJ p1 q1 p2 q2 p3 q3 b2) rfl (EW rfl rfl rfl rfl rfl rfl rfl rfl rfl rfl))) (eH Sa 15 _ Ht (h:=λwu Hu=>⟨sT,?_⟩));refine Zb0 ?_;have ZN:((t.kind.toNat:Nat):Int)=t.kind:=zcw oM
 obtain⟨isV,p9,rA,yU⟩: ∃isV:Value,((t.kind=1/\isV=mq p1 q1)\/(t.kind=2/\isV=mq p2 q2)\/(t.kind=3/\isV=mq p3 q3)\/(t.kind=4/\isV=Value.func (.func 277) #[] #[.pointer (some ⟨b2,0,none⟩)])\/(t.kind=5/\isV=oN 268))/\isV.oneCell'=true/\((vJ p1 q1 p2 q2 p3 q3 b2).drop (0+t.kind.toNat*5)).take 5=isV::sZ t.kind:=by
  rcases (by omega :t.kind=1\/t.kind=2\/t.kind=3\/t.kind=4\/t.kind=5)with e | e | e | e | e<;>rw[e]
  .exact⟨_,.inl ⟨rfl,rfl⟩,rfl,rfl⟩
  .exact⟨_,.inr (.inl ⟨rfl,rfl⟩),rfl,rfl⟩
  .exact⟨_,.inr (.inr (.inl ⟨rfl,rfl⟩)),rfl,rfl⟩
  .exact⟨_,.inr (.inr (.inr (.inl ⟨rfl,rfl⟩))),rfl,rfl⟩
  exact⟨_,.inr (.inr (.inr (.inr ⟨rfl,rfl⟩))),rfl,rfl⟩
 refine Vf ?_;refine Zb1 ?_;refine Vv (Gives.BI (i:=t.kind.toNat) rfl (by rw[ZN];rfl) oM) ?_;refine yx (us:=isV::sZ t.kind) (o:=0+t.kind.toNat*5) (b:=b5) Hu (hx:=by rw[<-Addr.add_lit];rfl) (hat:=by exact aT) (hu:=yU) (hk:=by rw[zal,nE]) (h:=?_);refine au Hu (us:=isV::sZ t.kind) (hk:=by rw[zal,nE]) (hv:=by rw[List.all_cons,rA,EZ];rfl) (h:=λwv Hv=>?_);refine Qn (fu (aX (h:=?_)));refine⟨_,jg Hv (hk:=by rw[zal,nE]),⟨isV,rfl,?_⟩,Hv.kept⟩
 rcases p9 with⟨e,rfl⟩ | ⟨e,rfl⟩ | ⟨e,rfl⟩ | ⟨e,rfl⟩ | ⟨e,rfl⟩<;>rw[e]
 .exact mD (by first | exact Hv.obj At0 | exact Hv.obj At2 | exact Hv.obj At4 | exact Hv.obj At1 | exact Hv.obj At3 | exact Hv.obj At5 | exact Hv.obj At6 | exact Hv.obj At7) (by first | exact Hv.obj At0 | exact Hv.obj At2 | exact Hv.obj At4 | exact Hv.obj At1 | exact Hv.obj At3 | exact Hv.obj At5 | exact Hv.obj At6 | exact Hv.obj At7) (λc=>rfl)
 .exact mD (by first | exact Hv.obj At0 | exact Hv.obj At2 | exact Hv.obj At4 | exact Hv.obj At1 | exact Hv.obj At3 | exact Hv.obj At5 | exact Hv.obj At6 | exact Hv.obj At7) (by first | exact Hv.obj At0 | exact Hv.obj At2 | exact Hv.obj At4 | exact Hv.obj At1 | exact Hv.obj At3 | exact Hv.obj At5 | exact Hv.obj At6 | exact Hv.obj At7) (λc=>rfl)
 .exact mD (by first | exact Hv.obj At0 | exact Hv.obj At2 | exact Hv.obj At4 | exact Hv.obj At1 | exact Hv.obj At3 | exact Hv.obj At5 | exact Hv.obj At6 | exact Hv.obj At7) (by first | exact Hv.obj At0 | exact Hv.obj At2 | exact Hv.obj At4 | exact Hv.obj At1 | exact Hv.obj At3 | exact Hv.obj At5 | exact Hv.obj At6 | exact Hv.obj At7) (λc=>rfl)
 .exact EX (by first | exact Hv.obj At7 | exact Hv.obj At6 | exact Hv.obj At5 | exact Hv.obj At4) (hT.keep Hv.kept)
 exact EY
end
attribute [local irreducible] qK isP sZ
section
variable {w:Wd}
theorem ah0 {t:dJ}:qK t=true↔1<=t.kind/\t.kind<=5:=by unfold qK;exact decide_eq_true_iff
theorem xG (t:dJ) (c:aI) (hf:fits c.n) (hT:pO w):aN Tryz.prog 144 [agg (bD t),agg (aj c)] w λv w'=>v=I (gN t c)/\Kept noB w w':=by
 have H:=Sep.aL w;obtain⟨res,ay⟩: ∃res,res=gN t c:=⟨_,rfl⟩;rw[<-ay];unfold gN at ay;refine dS Tryz.func144 rfl rfl rfl rfl ?_;refine Sr (dz H (cs:=bD t) rfl (h:=λb0 w2 H2 k0=>?_));refine dz H2 (cs:=aj c) rfl (h:=λb1 w4 H4 k1=>?_);refine Zb2 ?_;refine aF H4 (Ce t) (h:=λw8 H8 k7=>?_);refine Za2 ?_;refine Qn (Cd rfl (λIa=>?_) (λIa=>?_))
 .have hm:qK t=false:=by have h:=Ia;revert h;cases qK t<;>simp
  rw[zac hm]at ay;refine Zb1 ?_;exact⟨by rw[ay];rfl,H8.kept⟩
 have hm:qK t=true:=by have h:=Ia;revert h;cases qK t<;>simp
 rw[zab (by rw[hm];simp)]at ay;obtain⟨h1,h5⟩:=ah0.1 hm;refine Zb3 ?_;refine iN (t:=12) rfl (λSa=>?_) (λSa=>?_)
 .have ZE:c.null=true:=Sa
  rw[zac ZE]at ay;refine Zb4 ?_;refine iN (t:=16) rfl (λSb=>?_) (λSb=>?_)
  .have ZN:t.null=false:=by have h:=Sb;revert h;cases t.null<;>simp
   rw[zab (by rw[ZN];simp)]at ay;refine Zb4 ?_;exact⟨by rw[ay];rfl,H8.kept⟩
  have ZN:t.null=true:=by have h:=Sb;revert h;cases t.null<;>simp
  refine Zb1 ?_;refine Vb (aj dW) ?_;refine On (Vv (Gives.Yt (enc:=aj) _ _ rfl rfl) (Za3 ?_));refine Qn (Cp rfl (λIb=>?_) (λIb=>?_))
  .rw[zab (λh=>Ib h.2)]at ay
   refine Sk (xu (zaw Value.bool (zbe Ib)) ?_);refine Zb1 ?_;exact⟨by rw[ay];rfl,H8.kept⟩
  rw[zac ⟨ZN,zbt.1 Ib⟩]at ay;refine Ds (λSc wa Ha=>?_);refine Zb4 ?_;refine AV (t:=25) rfl (λSd=>?_) (λSd=>?_)
  .exact zat Sd (by rw[ZE];simp)
  refine RZ Sc 4 rfl rfl kR ?_;refine RZ Sc 7 rfl rfl kR ?_;refine RZ Sc 5 rfl rfl kR ?_;refine RZ Sc 6 rfl rfl kR ?_;refine RZ Sc 8 rfl rfl kR ?_;refine Zb3 ?_;exact⟨by rw[ay];rfl,Ha.kept⟩
 have ZE: ¬c.null=true:=by have h:=Sa;simpa using h
 rw[zab ZE,<-amu hf]at ay;refine Zb2 ?_;refine Ds (λSe wb Hb=>?_);refine Zb4 ?_;refine AV (t:=25) rfl (λSf=>?_) (λSf=>?_)
 .refine Zb1 ?_
  refine nC Se 7 Hb (h:=?_);refine fO Se 5 [(7,false)] rfl kR (ahZ t h1 h5 (hT.keep Hb.kept)) rfl kR kR (λv' wc hv=>?_);obtain⟨⟨isF,rfl,hp⟩,eB⟩:=hv;obtain⟨f,fs,cs,rfl,G7,uz⟩:=hp;have Hc:=Hb.keep eB;refine⟨(dN rfl kR (Gives.NM rfl (Hc.obj At0) (us:=aj c) rfl rfl) rfl (aK)),?_⟩;refine Zb1 ?_;refine jc Se 8 _ (y:=.tmp 28) (f:=f) (fs:=fs) (cs:=cs) (vals:=[agg (aj c)]) rfl (uz c _ (Kept.refl _ _)) (h:=λv' wd hv=>?_);obtain⟨rfl,amC⟩:=hv;have Hd:=Hc.keep amC;refine⟨sT,?_⟩;refine Za3 ?_;refine dP Se kR ?_;refine aU (Cd rfl (λIc=>?_) (λIc=>?_))
  .rw[zab (by have h:=Ic;revert h;cases isP t.kind c<;>simp)]at ay
   refine Zb1 ?_;exact⟨by rw[ay];rfl,Hd.kept⟩
  rw[zac (by have h:=Ic;revert h;cases isP t.kind c<;>simp)]at ay;refine Zb1 ?_;exact⟨by rw[ay];rfl,Hd.kept⟩
 exact zat (show c.null=true by have h:=Sf;revert h;cases c.null<;>simp) ZE
end
end Go.Proofs.YtkfpleidaoaonaaGreatDoor
namespace Go.Mw
open Go.RowKit
section gives
variable {P:Program} {ρ:Od->Value} {ty:Td} {w:Wd} {x y:Od} {T U:Td} {k:IntKind} {a b:Int}
theorem Gives.andNot (hx:ρ x=.int k a) (hy:ρ y=.int k b):Gives P ρ (.binOp .andNot T x y U) ty w (.int k (bits .andNot k a b)) w:=.bin hx hy (λ_ _=>rfl) (by rw[binOp_andNot];rfl)
end gives
end Go.Mw
namespace Go.Proofs.YtkfpleidaoaonaaGreatDoor
open Go Go.Mw Go.Lib
set_option maxRecDepth 4000
attribute [local irreducible] FW FL FG FGn gu gy dh gH Qfn Gives
theorem YN {y:Nat} (hy:y<18446744073709551616):y&&& 18446744073709551614=0↔y<=1:=by
 constructor
 .intro h
  have h1:=Nat.and_div_two (a:=y) (b:=18446744073709551614);rw[h,show 18446744073709551614/2=2^63-1 from dC,Nat.and_two_pow_sub_one_eq_mod]at h1;have h2:y/2%2^63=y/2:=Nat.mod_eq_of_lt oM;omega
 intro h
 rcases (by omega :y=0\/y=1)with rfl | rfl<;>decide
theorem acS {n:Int} (hf:fits n):bits .andNot .i64 n 1=0↔0<=n/\n<=1:=by
 obtain⟨h0,h1⟩:=hf;show IntKind.i64.wrap ((BitVec.ofInt 64 n&&& ~~~BitVec.ofInt 64 1).toNat:Int)=0↔_
 have e1:(BitVec.ofInt 64 1).toNat=1:=dC;have e2:(BitVec.ofInt 64 n).toNat=(n%18446744073709551616).toNat:=BitVec.toNat_ofInt n;have bX:(n%18446744073709551616).toNat<18446744073709551616:=oM;rw[BitVec.toNat_and,BitVec.toNat_not,e1,e2,show 2^64-1-1=18446744073709551614 from dC,IntKind.wrap_i64];have qQ:(n%18446744073709551616).toNat&&& 18446744073709551614<=(n%18446744073709551616).toNat:=Nat.and_le_left;have key:=YN bX;constructor
 .intro h
  have :(n%18446744073709551616).toNat&&& 18446744073709551614=0:=by omega
  have:=key.1 this;omega
 intro h;rw[key.2 oM]
 decide
theorem Py {s:L8}:gN ⟨4,false⟩ ⟨false,0,s⟩=0↔s.length<=1024/\validD s=true:=by
 have e:gN ⟨4,false⟩ ⟨false,0,s⟩=if decide ((0:Int)=0/\s.length<=1024/\validD s=true)=true then 0 else 90:=rfl
 rw[e]
 by_cases h:s.length<=1024/\validD s=true
 .rw[zac (zbe ⟨rfl,h⟩)];exact⟨λ_=>h,λ_=>rfl⟩
 rw[zab (by rw[decide_eq_true_eq];exact λe=>h e.2)];exact⟨λe=>zat e dC,λe=>zat e h⟩
theorem MH {s:L8}:gN ⟨5,false⟩ ⟨false,0,s⟩=0↔s.length<=1024:=by
 have e:gN ⟨5,false⟩ ⟨false,0,s⟩=if decide ((0:Int)=0/\s.length<=1024)=true then 0 else 90:=rfl
 rw[e]
 by_cases h:s.length<=1024
 .rw[zac (zbe ⟨rfl,h⟩)];exact⟨λ_=>h,λ_=>rfl⟩
 rw[zab (by rw[decide_eq_true_eq];exact λe=>h e.2)];exact⟨λe=>zat e dC,λe=>zat e h⟩
theorem alf:fits 0:=⟨dC,dC⟩
theorem YO {k:Int}:qL k≠[]↔k=1\/(3<=k/\k<=5):=by
 unfold qL
 split
 .simp[*]
 split
 .simp[*]
 split
 .simp[*]
 split
 .simp[*]
 simp;omega
attribute [local irreducible] gN qL
section
variable {w:Wd}
theorem abt (x:bJ) (hf:fits x.n) (hT:pO w):aN Tryz.prog 123 [agg (aD x)] w λv w'=>v=.bool (jM x)/\Kept noB w w':=by
 have H:=Sep.aL w;obtain⟨res,ay⟩: ∃res,res=jM x:=⟨_,rfl⟩;rw[<-ay];unfold jM at ay;refine eP Tryz.func123 rfl rfl rfl rfl ?_;refine Sr (dz H (cs:=aD x) rfl (h:=λb0 w2 H2 k0=>?_));refine Zb1 ?_;refine Ds (λCv w6 H6=>?_);refine aoh ?_;refine Qn (Cp rfl (λIa=>?_) (λIa=>?_))
 .rw[zac Ia]at ay
  refine Zb2 ?_;refine aC (t:=16) rfl (λSa=>?_) (λSa=>?_)
  .have hA:=Sa
   refine Zb5 ?_;refine aC (t:=21) rfl (λSb=>?_) (λSb=>?_)
   .have hB:=Sb
    refine Zb5 ?_;exact⟨zaw Value.bool (by rw[ay];exact zbj.2 ⟨λh=>⟨hA,hB,h⟩,λh=>h.2.2⟩),H6.kept⟩
   have hB:=Sb;refine Zb2 ?_;exact⟨zaw Value.bool (by rw[ay];exact Eq.symm (zar λh=>hB h.2.1)),H6.kept⟩
  have hA:=Sa;refine Zb4 ?_;exact⟨zaw Value.bool (by rw[ay];exact Eq.symm (zar λh=>hA h.1)),H6.kept⟩
 rw[zab Ia]at ay;refine Za2 ?_;refine Qn (Cp rfl (λIb=>?_) (λIb=>?_))
 .rw[zac Ib]at ay
  refine Zb2 ?_;exact⟨by rw[ay];rfl,H6.kept⟩
 rw[zab Ib]at ay;refine Za2 ?_;refine Qn (Cp rfl (λIc=>?_) (λIc=>?_))
 .rw[zac Ic]at ay
  refine Zb2 ?_;refine aC (t:=32) rfl (λSc=>?_) (λSc=>?_)
  .have hA:=Sc
   refine Zb2 ?_;refine Vv (Gives.andNot rfl rfl) (Zb3 ?_);exact⟨zaw Value.bool (by rw[ay];exact zbj.2 ⟨λh=>⟨hA,(acS hf).1 h⟩,λh=>(acS hf).2 h.2⟩),H6.kept⟩
  have hA:=Sc;refine Zb2 ?_;exact⟨zaw Value.bool (by rw[ay];exact Eq.symm (zar λh=>hA h.1)),H6.kept⟩
 rw[zab Ic]at ay;refine Za2 ?_;refine Qn (Cp rfl (λId=>?_) (λId=>?_))
 .rw[zac Id]at ay
  refine Zb2 ?_;refine aC (t:=41) rfl (λSd=>?_) (λSd=>?_)
  .have hA:=Sd
   refine On (Vb (bD ⟨4,false⟩) ?_);refine Zb2 ?_;refine Vb (aj ⟨false,0,x.s⟩) ?_;refine On (aF H6 (xG ⟨4,false⟩ ⟨false,0,x.s⟩ alf (hT.keep H6.kept)) (h:=λwa Ha ka=>?_));refine Zb3 ?_;exact⟨zaw Value.bool (by rw[ay];exact zbj.2 ⟨λh=>⟨hA,Py.1 h⟩,λh=>Py.2 h.2⟩),Ha.kept⟩
  have hA:=Sd;refine Zb2 ?_;exact⟨zaw Value.bool (by rw[ay];exact Eq.symm (zar λh=>hA h.1)),H6.kept⟩
 rw[zab Id]at ay;refine Za2 ?_;refine Qn (Cp rfl (λIe=>?_) (λIe=>?_))
 .rw[zac Ie]at ay
  refine Zb2 ?_;refine aC (t:=52) rfl (λSe=>?_) (λSe=>?_)
  .have hA:=Se
   refine On (Vb (bD ⟨5,false⟩) ?_);refine Zb2 ?_;refine Vb (aj ⟨false,0,x.s⟩) ?_;refine On (aF H6 (xG ⟨5,false⟩ ⟨false,0,x.s⟩ alf (hT.keep H6.kept)) (h:=λwb Hb kb=>?_));refine Zb3 ?_;exact⟨zaw Value.bool (by rw[ay];exact zbj.2 ⟨λh=>⟨hA,MH.1 h⟩,λh=>MH.2 h.2⟩),Hb.kept⟩
  have hA:=Se;refine Zb2 ?_;exact⟨zaw Value.bool (by rw[ay];exact Eq.symm (zar λh=>hA h.1)),H6.kept⟩
 rw[zab Ie]at ay;refine Za2 ?_;refine Qn (Cp rfl (λIf=>?_) (λIf=>?_))
 .rw[zac If]at ay
  refine Zb2 ?_;refine aC (t:=63) rfl (λSf=>?_) (λSf=>?_)
  .have hA:=Sf
   refine Zb2 ?_;refine aF H6 (VY x.n) (h:=λwc Hc kc=>?_);refine Zb3 ?_;refine aC (t:=69) rfl (λSg=>?_) (λSg=>?_)
   .have hB:=Sg
    refine Zb7 ?_;exact⟨zaw Value.bool (by rw[ay];exact zbj.2 ⟨λ_=>⟨hA,YO.1 hB⟩,λ_=>trivial⟩),Hc.kept⟩
   have hB:=Sg;refine Zb2 ?_;exact⟨zaw Value.bool (by rw[ay];exact Eq.symm (zar λh=>hB (YO.2 h.2))),Hc.kept⟩
  have hA:=Sf;refine Zb4 ?_;exact⟨zaw Value.bool (by rw[ay];exact Eq.symm (zar λh=>hA h.1)),H6.kept⟩
 rw[zab If]at ay;refine Zb4 ?_;refine aC (t:=79) rfl (λSh=>?_) (λSh=>?_)
 .have hA:=Sh
  refine Zb5 ?_;refine aC (t:=84) rfl (λSi=>?_) (λSi=>?_)
  .have hB:=Si
   refine Zb3 ?_;refine aC (t:=87) rfl (λSj=>?_) (λSj=>?_)
   .have hC:=Sj
    refine Zb3 ?_;exact⟨zaw Value.bool (by rw[ay];exact zbj.2 ⟨λh=>⟨hA,hB,h,hC⟩,λh=>h.2.2.1⟩),H6.kept⟩
   have hC:=Sj;refine Zb2 ?_;exact⟨zaw Value.bool (by rw[ay];exact Eq.symm (zar λh=>hC h.2.2.2)),H6.kept⟩
  have hB:=Si;refine Zb4 ?_;exact⟨zaw Value.bool (by rw[ay];exact Eq.symm (zar λh=>hB h.2.1)),H6.kept⟩
 have hA:=Sh;refine Zb6 ?_;exact⟨zaw Value.bool (by rw[ay];exact Eq.symm (zar λh=>hA h.1)),H6.kept⟩
end
end Go.Proofs.YtkfpleidaoaonaaGreatDoor
namespace Go.Proofs.YtkfpleidaoaonaaGreatDoor
open Go Go.Mw Go.Lib Tryz
set_option maxRecDepth 4000
attribute [local irreducible] FW FL FG FGn gu gy dh gH Qfn Gives
def acT (K:Nat) (A:OA) (n c k:Nat):Value:=if k<=n then .slice (if c=n-k then A else A.map (·.add ((n-k)*K))) k (c-(n-k))else .slice none 0 0
def leftV (A:OA) (n c k:Nat):Value:=if k<=n then .slice A (n-k) (n-k)else .slice A n c
theorem TP (k:Int):eY k<=2:=by unfold eY;(repeat' split)<;>omega
theorem TQ {x:bJ} (h:jM x=true):1<=x.kind/\x.kind<=18:=by
 unfold jM at h
 repeat' split at h
 all_goals first | omega | (have:=zba h;omega)
theorem xH {k:Int}:eY k=0↔k<7:=by
 unfold eY
 split
 .simp[*]
 split<;>simp<;>omega
theorem YP {α:Type} {k:Int} {st:List α} {d:α} (h7:7<=k) (hk:eY k<=st.length):D6 k (st.drop (st.length-eY k)) (st.getD (st.length-eY k) d) (st.getD (st.length-1) d):=by
 unfold eY at hk ⊢;rw[zab oM]at hk |-
 by_cases h1:k=10\/k=15\/k=16\/k=18
 .rw[zac h1]at hk |-
  left
  refine⟨?_,rfl,h1⟩;have bX:st.length-1<st.length:=oM;rw[zbq bX,zca oM,zau,zaa bX];rfl
 rw[zab h1]at hk |-
 right
 refine⟨?_,oM⟩;have bX:st.length-2<st.length:=oM;have Co:st.length-2+1<st.length:=oM;have e:st.length-1=st.length-2+1:=oM;rw[e,zbq bX,zbq Co,zca oM,zau,zaa bX,zau,zaa Co];rfl
def Q0 (cols:List bL) (st:List dJ) (x:bJ):Option dJ:=
 if eY x.kind=0 then lW cols x else FT x.kind (st.getD (st.length-eY x.kind) ng) (st.getD (st.length-1) ng)
theorem abu {cols:List bL} {st:List dJ} {x:bJ} (h1:jM x=true) (h2:eY x.kind<=st.length):stepT cols st x=(Q0 cols st x).map λt=>st.take (st.length-eY x.kind)++[t]:=by
 unfold stepT Q0;dsimp only;rw[zab (by rw[h1];simp;omega)]
theorem Lj {cols:List bL} {st:List dJ} {x:bJ} (h:jM x=false\/st.length<eY x.kind):stepT cols st x=none:=by
 unfold stepT;dsimp only;rw[zac h]
theorem Sep.ah1 {α:Type} {enc:α->LV} {k e n c:Nat} {l:List α} {A:OA} {w w0:Wd} {S:NP} {rs:List HP} {put:HP->List HP} (H:Sep w0 S rs w) (hat:At rs (bW e k enc (.slice A n c) l) put):c<=9223372036854775807:=by
 obtain⟨F,hp,_,_⟩:=H.focus hat
 rcases hp.1.2 with⟨hv,h0⟩ | ⟨g,cap,cur,hv,_,hh,qQ,hmax,_⟩
 .injection hv with _ _ h;omega
 injection hv with _ _ h;unfold maxLen at hmax;omega
theorem Pz {α:Type} {enc:α->LV} {k:Nat} [hk:lY enc k] {w:Wd} {A:OA} {l:List α} {c j:Nat} (h:Rd w A enc k l) (hc:l.length<=c) (hc2:c<=9223372036854775807) (hj:j<=l.length):aM w (.slice (if c=l.length-j then A else A.map (·.add ((l.length-j)*k))) j (c-(l.length-j))) enc k (l.drop (l.length-j)):=by
 refine⟨if c=l.length-j then A else A.map (·.add ((l.length-j)*k)),c-(l.length-j),?_,⟨?_,?_⟩,h.aov (l.length-j) hc⟩
 .rw[zbu,show l.length-(l.length-j)=j from oM]
 .rw[zbu];omega
 omega
section
variable {w:Wd}
theorem abv {b E n c k:Nat} {A:OA} {F:NP} {f:FuncId} (hp:(blk b [.slice A n c] E).ok F w) (hk:k<=1000000)
    (LA:k<=n->aN prog f [.pointer (some ⟨b,0,none⟩),I k] w λv w'=>v=.tuple #[.slice (if c=n-k then A else A.map (·.add ((n-k)*2))) k (c-(n-k)),.bool true]/\Turn F (blk b [.slice A (n-k) (n-k)] E) w w')
    (qR:n<k->aN prog f [.pointer (some ⟨b,0,none⟩),I k] w λv w'=>v=.tuple #[.slice none 0 0,.bool false]/\Turn F (blk b [.slice A n c] E) w w'):
    aN prog f [.pointer (some ⟨b,0,none⟩),I k] w λv w'=>v=.tuple #[acT 2 A n c k,.bool (decide (k<=n))]/\Turn F (blk b [leftV A n c k] E) w w':=by
  by_cases h:k<=n
  . rw[acT,leftV,zac h,zac h,zbe h];exact LA h
  rw[acT,leftV,zab h,zab h,zar h];exact qR oM
attribute [local irreducible] jM qK lW FT
theorem PD {cols:List bL} {l:List bJ} {vc vl:Value} (hc:aM w vc aR 7 cols) (hl:aM w vl aD 3 l) (hx: ∀x∈l,fits x.n) (hT:pO w):aN prog 79 [vc,vl] w λv w'=>v=.tuple #[agg (bD (jJ cols l).1),I (jJ cols l).2]/\Kept noB w w':=by
  have Qw:=hc;obtain⟨A,m,rfl,⟨hm,qo⟩,hA⟩:=hc;obtain⟨C,n,rfl,⟨hn,Zp⟩,hC⟩:=hl;have H:=Sep.aL w;obtain⟨res,ay⟩: ∃res,res=jJ cols l:=⟨_,rfl⟩;rw[<-ay];unfold jJ at ay;refine DR func79 rfl rfl rfl rfl ?_;refine Sr (aW H (h:=λb4 w2 H2 k1=>?_));refine Za4 ?_;refine Qn (Cp rfl (λqx=>?_) (λqx=>?_))
  . rw[zac oM]at ay
    refine Sr (Vb (bD ng) ?_);refine au H2 (h:=λwa Ha=>?_);refine Am ?_;refine Qn (Rs (aX (h:=?_)));exact⟨_,jh Ha,by rw[ay];rfl,Ha.kept⟩
  rw[zab oM]at ay;refine Zb0 ?_;refine aW H2 (h:=λb6 wb Hb ka=>?_);refine Zb3 ?_;have Hc:=Sep.lZ Hb 50 2 bD;refine aP (λx:Nat×List dJ×Value=>[(0,.slice A cols.length m),(4,.pointer (some ⟨b4,0,none⟩)),(6,.pointer (some ⟨b6,0,none⟩)),(16,.slice C l.length n),(17,I l.length),(18,I x.1)]) (λx w'=>(x.1<=l.length/\x.2.1.length<=x.1/\runT cols x.2.1 (l.drop x.1)=runT cols [] l)/\Sep w noB [bW 50 2 bD x.2.2 x.2.1,blk b6 [x.2.2] 192,blk b4 (bD ng) 50] w') (λx _=>l.length-x.1) (0,[],.slice none 0 0) tR ⟨⟨zak _,zbf _,rfl⟩,Hc⟩ (λx τ wc hI=>?_);obtain⟨i,st,v0⟩:=x;obtain⟨⟨hi,Qi,gQ⟩,Hc⟩:=hI;dsimp only at hi Qi gQ Hc;obtain⟨B,cb,rfl,Ul,hB⟩:=Sep.eO Hc At0
  try simp only[dA,like,bB,bY]
  refine Za1 ?_;refine Qn (fC (Cp rfl (λIa=>?_) (λIa=>?_)))
  . have bX:i<l.length:=oM
    obtain⟨x,Kk⟩:=get_some bX
    have hdr:l.drop i=x::l.drop (i+1):=by
      rw[zbq bX];rw[zaa bX]at Kk;injection Kk with Kk;rw[Kk]
    rw[hdr,runT]at gQ;have hfx:=hx x (zao Kk);have hk2:=TP x.kind;refine Zb2 ?_;refine aW Hc (h:=λb8 wd Hd kb=>?_);refine au Hd (h:=λwe He=>?_);refine Zb2 ?_;refine aF He (acQ x.kind) (h:=λwf Hf kc=>?_);obtain⟨F0,fZ,iK,aQ⟩:=Hf.focus At2;refine aS (abv fZ oM (λh=>VW fZ h Ul oM) (λh=>Pv fZ h oM)) rfl rfl (λv' wg hv=>?_);obtain⟨rfl,eB,F1,hq,hs⟩:=hv;have Hg:=aQ _ F1 _ eB hq hs;refine Zb8 ?_;refine aC (t:=31) rfl (λSa=>?_) (λSa=>?_)
    . rw[Lj (.inr oM)]at gQ
      rw[<-gQ]at ay;have iq:res=(ng,220):=ay;refine Zb1 ?_;refine Vb (bD ng) ?_;refine au Hg (h:=λwh Hh=>?_);refine Am ?_;refine Qn (Rs (dF (fG (mW (dF (fG (aX (h:=?_))))))));exact⟨_,jh Hh,by rw[iq];rfl,Hh.kept⟩
    have hkn:eY x.kind<=st.length:=oM;rw[acT,zac hkn];rw[leftV,zac hkn]at Hg;refine Zb1 ?_;refine aF Hg (abt x hfx (hT.keep Hg.kept)) (h:=λwi Hi kd=>?_);refine Za2 ?_;refine Qn (Cd rfl (λIb=>?_) (λIb=>?_))
    . rw[Lj (.inl (by have h:=Ib;revert h;cases jM x<;>simp))]at gQ
      rw[<-gQ]at ay;have iq:res=(ng,220):=ay;refine Sr (Vb (bD ng) ?_);refine au Hi (h:=λwj Hj=>?_);refine Am ?_;refine Qn (Rs (dF (fG (mW (dF (fG (aX (h:=?_))))))));exact⟨_,jh Hj,by rw[iq];rfl,Hj.kept⟩
    have Zq:jM x=true:=by have h:=Ib;revert h;cases jM x<;>simp
    obtain⟨jH,ana⟩:=TQ Zq;rw[abu Zq hkn]at gQ;refine Zb0 ?_;refine aW Hi (h:=λb11 wk Hk ke=>?_);refine Qn (iP (λtp:dJ=>[(0,.slice A cols.length m),(4,.pointer (some ⟨b4,0,none⟩)),(6,.pointer (some ⟨b6,0,none⟩)),(8,.pointer (some ⟨b8,0,none⟩)),(10,.bool (Q0 cols st x).isSome),(11,.pointer (some ⟨b11,0,none⟩)),(16,.slice C l.length n),(17,I l.length),(18,I i)]) (λtp w'=>(∀y,Q0 cols st x=some y->tp=y)/\Sep w noB [blk b11 (bD tp) 50,blk b8 (aD x) 92,bW 50 2 bD (.slice B st.length cb) st,blk b6 [.slice B (st.length-eY x.kind) (st.length-eY x.kind)] 192,blk b4 (bD ng) 50] w') ?_ ?_)
    . refine Za3 ?_
      refine Qn (Cp rfl (λIc=>?_) (λIc=>?_))
      . have Ck:eY x.kind=0:=oM
        have hrt:Q0 cols st x=lW cols x:=zac Ck;have hk6:x.kind<=6:=by have:=xH.1 Ck;omega
        refine Zb2 ?_;refine aF Hk (amt x (Qw.keep Hk.kept) jH hk6) (h:=λwl Hl kf=>?_);refine Zb3 ?_;refine au Hl (h:=λwm Hm=>?_);refine Zb1 ?_;exact aG ((lW cols x).getD ng) ⟨rfl,rfl,rfl,rfl,by rw[hrt];rfl,rfl,rfl,rfl,rfl,trivial⟩ ⟨λy hy=>by rw[hrt]at hy;rw[hy];rfl,Hm⟩
      have Ck: ¬eY x.kind=0:=oM;have hrt:Q0 cols st x=FT x.kind (st.getD (st.length-eY x.kind) ng) (st.getD (st.length-1) ng):=zab Ck
      have hk7:7<=x.kind:=by
        refine Classical.byContradiction λh=>Ck (xH.2 oM)
      refine Zb3 ?_;refine aS (ahY (Pz (mP Hk At2) Ul (Sep.ah1 Hk At2) hkn) (YP (d:=ng) hk7 hkn) hk7 ana) rfl rfl (λv' wn hv=>?_);obtain⟨⟨tp,rfl,htp⟩,eB⟩:=hv;have Hn:=Hk.keep eB;refine Zb3 ?_;refine au Hn (h:=λwo Ho=>?_);refine Zb1 ?_;exact aG tp ⟨rfl,rfl,rfl,rfl,by rw[hrt];rfl,rfl,rfl,rfl,rfl,trivial⟩ ⟨λy hy=>by rw[hrt]at hy;exact htp y hy,Ho⟩
    rintro tp τ wp ⟨htp,Hp⟩;simp only[dA,like,bB];refine Za2 ?_;refine Qn (Cd rfl (λId=>?_) (λId=>?_))
    . have qR:Q0 cols st x=none:=by
        cases h:Q0 cols st x with
        | none=>rfl
        | some y=>rw[h]at Id;cases Id
      rw[qR]at gQ;rw[<-gQ]at ay;have iq:res=(ng,220):=ay;refine Sr (Vb (bD ng) ?_);refine au Hp (h:=λwq Hq=>?_);refine Am ?_;refine Qn (Rs (dF (fG (mW (dF (fG (aX (h:=?_))))))));exact⟨_,jh Hq,by rw[iq];rfl,Hq.kept⟩
    obtain⟨y,hy⟩: ∃y,Q0 cols st x=some y:=by
      cases h:Q0 cols st x with
      | none=>rw[h]at Id;cases Id
      | some y=>exact⟨y,rfl⟩
    have hty:=htp y hy;subst hty;rw[hy]at gQ;refine Zb1 ?_;refine Bs Hp ([tp].flatMap bD) (λbs wr Hr kg=>?_);obtain⟨F0,fZ,iK,aQ⟩:=Hr.focus At4;have Qk:(st.take (st.length-eY x.kind)).length=st.length-eY x.kind:=by rw[zag];omega
    have hRc:=(mP Hr At3).cut (st.length-eY x.kind);have Kl:aM _ (.slice (some ⟨bs,0,none⟩) 1 1) bD 2 [tp]:=⟨some ⟨bs,0,none⟩,1,rfl,⟨sM,oM⟩,Sep.qJ Hr At0 rfl⟩;refine aS (YM (l:=st.take (st.length-eY x.kind)) (by rw[Qk];exact fZ) hRc Kl sM (by simp;omega)) rfl rfl (λv' ws hv=>?_);obtain⟨v2,rfl,_,eB,F1,hq,hs⟩:=hv;have Hs:=((aQ _ F1 _ eB hq hs).fF).dG;refine Zb2 ?_;exact ak (i+1,st.take (st.length-eY x.kind)++[tp],v2) tR ⟨⟨dO,by dsimp only;rw[zad,Qk];simp;omega,gQ⟩,(Hs.mM.aJ.bF).firsts (l:=[_,_,_])⟩ dO
  have qp:i=l.length:=oM;rw[qp,zff,runT]at gQ;rw[<-gQ]at ay;refine Za4 ?_;refine Qn (Cp rfl (λIe=>?_) (λIe=>?_))
  . have iq:res=(ng,220):=by
      rw[ay]
      match st,Ie with
      | [],_=>rfl
      | [t],h=>exact zat rfl h
      | t::u::r,_=>rfl
    refine Sr (Vb (bD ng) ?_);refine au Hc (h:=λwt Ht=>?_);refine Am ?_;refine Qn (Rs (aX (h:=?_)));exact⟨_,jh Ht,by rw[iq];rfl,Ht.kept⟩
  obtain⟨t,ht⟩: ∃t,st=[t]:=List.length_eq_one_iff.1 oM;have hg0:st[0]? =some t:=by rw[ht];rfl
  have iq:res=(t,0):=by rw[ay,ht]
  refine Zb2 ?_;refine Vv (Gives.mK (i:=0) rfl rfl hB oM) (Vv (Gives.Lh (i:=0) rfl hB hg0) ?_);refine au Hc (h:=λwu Hu=>?_);refine Am ?_;refine Qn (fu (aX (h:=?_)));exact⟨_,jh Hu,by rw[iq];rfl,Hu.kept⟩
end
end Go.Proofs.YtkfpleidaoaonaaGreatDoor
namespace Go.Proofs.YtkfpleidaoaonaaGreatDoor
open Go Go.Mw Go.Lib Tryz
set_option maxRecDepth 4000
attribute [local irreducible] FW FL FG FGn gu gy dh gH Qfn Gives
def Fx (a b:Int):Int:=if a<b then -1 else if b<a then 1 else 0
def orI (l:List Int):Int:=(l.find? λx=>decide (x≠0)).getD 0
theorem amv (a b:aI) (h:a.null=b.null):orI [Fx a.n b.n,compareBytes a.s b.s]=vT a b:=by
 unfold orI Fx vT;rw[zac h]
 by_cases h1:a.n<b.n
 .rw[zac h1,zac h1];rfl
 rw[zab h1,zab h1]
 by_cases h2:b.n<a.n
 .rw[zac h2,zac h2];rfl
 rw[zab h2,zab h2]
 rcases TJ a.s b.s with e | e | e<;>rw[e]<;>rfl
theorem E8 {a b:Int} (h0:a≠0) (ha:fits a) (hb:fits b):(IntKind.i64.wrap ((IntKind.i64.wrap (a*b)).tdiv a)≠b\/(a= -1/\b= -9223372036854775808))↔¬gU (a*b)=true:=by
 obtain⟨ha1,ha2⟩:=ha;obtain⟨Q8,hb2⟩:=hb
 by_cases hm:a= -1
 .subst hm
  have e:(-1:Int)*b= -b:=oM;rw[e];have hf:gU (-b)=decide (b≠ -9223372036854775808):=by unfold gU;rw[zbj];omega
  rw[hf]
  by_cases Ni:b= -9223372036854775808
  .subst Ni;decide
  have e2:IntKind.i64.wrap (-b)= -b:=wrap64 oM;have e3:(-b).tdiv (-1)=b:=by rw[Int.tdiv_neg,Int.tdiv_one];omega
  rw[e2,e3,wrap64 ⟨Q8,hb2⟩];simp[Ni]
 have hq:=ahS (n:=IntKind.i64.wrap (a*b)) (by rw[IntKind.wrap_i64];omega) h0 hm;rw[wrap64 hq];have:=aeX (a:=b) (b:=a) h0 ⟨ha1,ha2⟩;rw[Int.mul_comm b a]at this;rw[<-this];constructor
 .rintro(h | h)
  .exact h
  exact zat h.1 hm
 exact .inl
section
variable {w:Wd}
theorem fI (b:Bool):aN prog 198 [.bool b] w λv w'=>v=agg (aj (jV b))/\Kept noB w w':=by
 have H:=Sep.aL w;refine sI func198 rfl rfl rfl rfl ?_;refine Sr (aW H (h:=λb1 w2 H2 k1=>?_));refine Za1 ?_;refine Qn (Cd rfl (λZy=>?_) (λZy=>?_))
 .have hb:=Zy
  refine Sr (Vb (aj (jV true)) ?_);refine au H2 (h:=λw8 H8=>?_);refine Qn (Rs (aX (h:=?_)));exact⟨_,jg H8,by rw[show b=true by simpa using hb];rfl,H8.kept⟩
 have hb:=Zy;refine Zb0 ?_;refine Vb (aj (jV false)) ?_;refine au H2 (h:=λwa Ha=>?_);refine Qn (fu (aX (h:=?_)));exact⟨_,jg Ha,by rw[show b=false by simpa using hb];rfl,Ha.kept⟩
theorem YQ (n:Int):aN prog 293 [I n] w λv w'=>v=.bool false/\w=w':=by
 have H:=Sep.aL w;refine eP func293 rfl rfl rfl rfl ?_;refine Zb5 ?_;exact⟨zaw Value.bool sM,rfl⟩
theorem akn (a b:Int):aN prog 209 [I a,I b] w λv w'=>v=I (Fx a b)/\w=w':=by
 have H:=Sep.aL w;refine dS func209 rfl rfl rfl rfl ?_;refine Zb2 ?_;refine gX (YQ a) (h:=?_);refine Zb2 ?_;refine gX (YQ b) (h:=?_);refine Za2 ?_;refine Qn (Cd rfl (λJf=>?_) (λJf=>?_))
 .cases Jf
 refine Za1 ?_;refine Qn (Cd rfl (λIa=>?_) (λIa=>?_))
 .cases Ia
 refine Za3 ?_;refine Qn (Cp rfl (λIb=>?_) (λIb=>?_))
 .have h1:=Ib
  refine Zb1 ?_;exact⟨by unfold Fx;rw[zac h1];rfl,rfl⟩
 have h1:=Ib;refine Za3 ?_;refine Qn (Cp rfl (λIc=>?_) (λIc=>?_))
 .have h2:=Ic
  refine Zb1 ?_;exact⟨by unfold Fx;rw[zab h1,zac oM];rfl,rfl⟩
 have h2:=Ic;refine Zb1 ?_;exact⟨by unfold Fx;rw[zab h1,zab oM];rfl,rfl⟩
theorem amw {l:List Int} {v:Value} (hl:aM w v intCells 1 l):aN prog 208 [v] w λv w'=>v=I (orI l)/\Kept noB w w':=by
 obtain⟨A,m,rfl,⟨hm,qo⟩,hA⟩:=hl;have H:=Sep.aL w;refine eP func208 rfl rfl rfl rfl ?_;refine Zb5 ?_;refine aP (λi:Nat=>[(3,I 0),(6,.slice A l.length m),(7,I l.length),(8,I i)]) (λi w'=>(i<=l.length/\orI (l.drop i)=orI l)/\Sep w noB [] w') (λi _=>l.length-i) 0 tR ⟨⟨zak _,rfl⟩,H⟩ (λi τ w7 hI=>?_);obtain⟨⟨hi,gQ⟩,H7⟩:=hI
 try simp only[dA,like,bB,bY]
 refine Za1 ?_;refine Qn (fC (Cp rfl (λJf=>?_) (λJf=>?_)))
 .have bX:i<l.length:=oM
  obtain⟨y,hy⟩:=get_some bX
  have hdr:l.drop i=y::l.drop (i+1):=by
   rw[zbq bX];rw[zaa bX]at hy;injection hy with hy;rw[hy]
  rw[hdr]at gQ;refine Za6 ?_;refine Qn (Cp rfl (λIa=>?_) (λIa=>?_))
  .have iq:orI l=y:=by rw[<-gQ];unfold orI;rw[zcj,zbe Ia];rfl
   refine Zb2 ?_;exact⟨by rw[iq];rfl,H7.kept⟩
  have Jb:orI (l.drop (i+1))=orI l:=by rw[<-gQ];unfold orI;rw[zcj,zar Ia]
  refine Zb2 ?_;exact ak (i+1) tR ⟨⟨oM,Jb⟩,H7⟩ oM
 have qp:i=l.length:=oM;rw[qp,zff]at gQ;refine Zb2 ?_;exact⟨by rw[<-gQ];rfl,H7.kept⟩
theorem ah2 (a b:Int) (ha:fits a) (hb:fits b):aN prog 265 [I a,I b] w λv w'=>(∃c,v=.tuple #[I c,.bool (gU (a*b))]/\(gU (a*b)=true->c=a*b))/\Kept noB w w':=by
 have H:=Sep.aL w;refine dS func265 rfl rfl rfl rfl ?_;refine Zb4 ?_;refine Vv (Gives.aqH (c:=IntKind.i64.wrap (a*b)) rfl rfl rfl) (Zb4 ?_);refine aC (t:=12) rfl (λSa=>?_) (λSa=>?_)
 .have h0:a≠0:=oM
  refine Zb2 ?_;refine Vv (Gives.aqI (c:=IntKind.i64.wrap ((IntKind.i64.wrap (a*b)).tdiv a)) rfl rfl oM rfl) (Zb3 ?_);refine aC (t:=18) rfl (λSb=>?_) (λSb=>?_)
  .have hA:=Sb
   have qR:gU (a*b)=false:=by simpa using (E8 h0 ha hb).1 (.inl hA)
   refine Zb4 ?_;exact⟨⟨0,by rw[qR];rfl,λh=>by rw[qR]at h;cases h⟩,H.kept⟩
  have hA:=Sb;refine Zb3 ?_;refine aC (t:=21) rfl (λSc=>?_) (λSc=>?_)
  .have hB:=Sc
   refine Za5 ?_;refine Qn (Cp rfl (λIa=>?_) (λIa=>?_))
   .have qR:gU (a*b)=false:=by simpa using (E8 h0 ha hb).1 (.inr ⟨hB,Ia⟩)
    refine Zb2 ?_;exact⟨⟨0,by rw[qR];rfl,λh=>by rw[qR]at h;cases h⟩,H.kept⟩
   have LA:gU (a*b)=true:=Classical.byContradiction λh=>by
    rcases (E8 h0 ha hb).2 h with h1 | h1
    .exact hA h1
    exact Ia h1.2
   refine Zb3 ?_;exact⟨⟨IntKind.i64.wrap (a*b),by rw[LA];rfl,λh=>wrap64 (zba h)⟩,H.kept⟩
  have hB:=Sc
  have LA:gU (a*b)=true:=Classical.byContradiction λh=>by
   rcases (E8 h0 ha hb).2 h with h1 | h1
   .exact hA h1
   exact hB h1.1
  refine Zb6 ?_;exact⟨⟨IntKind.i64.wrap (a*b),by rw[LA];rfl,λh=>wrap64 (zba h)⟩,H.kept⟩
 have h0:a=0:=oM;have LA:gU (a*b)=true:=by rw[h0,Int.zero_mul];rfl
 refine Zb4 ?_;exact⟨⟨IntKind.i64.wrap (a*b),by rw[LA];rfl,λh=>wrap64 (zba h)⟩,H.kept⟩
def MI (k a b:Int):Int:=if k=7 then a+b else if k=8 then a-b else if k=9 then a*b else -a
theorem TR (k a b:Int) (ha:fits a) (hb:fits b):aN prog 199 [I k,I a,I b] w λv w'=>(∃c,v=.tuple #[I c,.bool (gU (MI k a b))]/\(gU (MI k a b)=true->c=MI k a b))/\Kept noB w w':=by
 have H:=Sep.aL w;have ha':=ha;have ZB:=hb;obtain⟨ha1,ha2⟩:=ha;obtain⟨Q8,hb2⟩:=hb;obtain⟨res,ay⟩: ∃res,res=MI k a b:=⟨_,rfl⟩;rw[<-ay];unfold MI at ay;refine tH func199 rfl rfl rfl rfl ?_;refine Za5 ?_;refine Qn (Cp rfl (λLB=>?_) (λLB=>?_))
 .rw[zac LB]at ay
  refine Zb2 ?_;refine Vv (Gives.ahQ (c:=IntKind.i64.wrap (a+b)) rfl rfl rfl) (aeH ?_);exact⟨⟨_,zaw (λb=>Value.tuple #[I _,.bool b]) (by rw[ay];unfold gU;rw[zdj,beq_iff_eq,zbj,decide_eq_true_eq,IntKind.wrap_i64];omega),λh=>by have:=zba h;rw[ay]at this ⊢;exact wrap64 this⟩,H.kept⟩
 rw[zab LB]at ay;refine Za2 ?_;refine Qn (Cp rfl (λIa=>?_) (λIa=>?_))
 .rw[zac Ia]at ay
  refine Zb2 ?_;refine Vv (Gives.amr (c:=IntKind.i64.wrap (a-b)) rfl rfl rfl) (aeH ?_);exact⟨⟨_,zaw (λb=>Value.tuple #[I _,.bool b]) (by rw[ay];unfold gU;rw[zdj,beq_iff_eq,zbj,decide_eq_true_eq,IntKind.wrap_i64];omega),λh=>by have:=zba h;rw[ay]at this ⊢;exact wrap64 this⟩,H.kept⟩
 rw[zab Ia]at ay;refine Za2 ?_;refine Qn (Cp rfl (λIb=>?_) (λIb=>?_))
 .rw[zac Ib]at ay
  refine Zb2 ?_;refine aS (ah2 a b ha' ZB) rfl rfl (λv' wa hv=>?_);obtain⟨⟨cp,rfl,hcp⟩,eB⟩:=hv;have Ha:=H.keep eB;refine Zb4 ?_;exact⟨⟨cp,by rw[ay];rfl,λh=>by rw[ay]at h ⊢;exact hcp h⟩,Ha.kept⟩
 rw[zab Ib]at ay;refine Zb1 ?_;refine Vv (Gives.aou (c:=IntKind.i64.wrap (0-a)) rfl rfl) (Zb4 ?_);exact⟨⟨_,zaw (λb=>Value.tuple #[I (IntKind.i64.wrap (0-a)),.bool b]) (by rw[ay];unfold gU;rw[zbj];omega),λh=>by have:=zba h;rw[ay]at this ⊢;rw[wrap64 oM];omega⟩,H.kept⟩
end
end Go.Proofs.YtkfpleidaoaonaaGreatDoor
