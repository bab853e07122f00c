/-
 The table of kinds,and whether a cell is of a type,walked.
-/
import Derived.Test.YtkfpleidaoaonaaGreatDoorNw1
import Derived.Test.YtkfpleidaoaonaaGreatDoorNw3
import Derived.Test.YtkfpleidaoaonaaGreatDoorNw7
set_option linter.unusedVariables false
set_option linter.unusedSimpArgs false
namespace Go.Proofs.YtkfpleidaoaonaaGreatDoor
open Go Go.Mw Go.Lib
set_option maxRecDepth 4000
attribute [local irreducible] FW FL FG FGn fZ gG cO gW Qfn Gives
section
variable {w:Wd}
def nU (p q:Nat):Value:=.func (.func 267) #[] #[.pointer (some ⟨p,0,none⟩),.pointer (some ⟨q,0,none⟩)]
theorem five {α:Type} {l:List α} (h:l.length=5): ∃a b c d e,l=[a,b,c,d,e]:=by
 match l,h with
 | [a,b,c,d,e],_=>exact⟨a,b,c,d,e,rfl⟩
theorem Bu {ρ:Od->Value} {x1 x2 x3 x4 x5:Od} {r1 r2 r3 r4 r5:LV} (l1:r1.length=5) (l2:r2.length=5) (l3:r3.length=5) (l4:r4.length=5) (l5:r5.length=5)
    (h1:ρ x1=.agg r1.toArray) (h2:ρ x2=.agg r2.toArray) (h3:ρ x3=.agg r3.toArray) (h4:ρ x4=.agg r4.toArray) (h5:ρ x5=.agg r5.toArray):
    Fills (λi:Nat=>some (i*5,5)) ρ [(1,x1),(2,x2),(3,x3),(4,x4),(5,x5)] (List.replicate 30 .nilFunc) (List.replicate 5 .nilFunc++r1++r2++r3++r4++r5):=by
  obtain⟨a1,b1,c1,d1,e1,rfl⟩:=five l1;obtain⟨a2,b2,c2,d2,e2,rfl⟩:=five l2;obtain⟨a3,b3,c3,d3,e3,rfl⟩:=five l3;obtain⟨a4,b4,c4,d4,e4,rfl⟩:=five l4;obtain⟨a5,b5,c5,d5,e5,rfl⟩:=five l5;refine Fills.many rfl h1 (zaw rfl) rfl ?_;refine Fills.many rfl h2 (zaw rfl) rfl ?_;refine Fills.many rfl h3 (zaw rfl) rfl ?_;refine Fills.many rfl h4 (zaw rfl) rfl ?_;refine Fills.many rfl h5 (zaw rfl) rfl ?_;rfl
def xC (p1 q1 p2 q2 p3 q3 b2:Nat):LV:=List.replicate 5 .nilFunc++(nU p1 q1::kF1)++(nU p2 q2::kF2)++(nU p3 q3::kF2)++(Value.func (.func 277) #[] #[.pointer (some ⟨b2,0,none⟩)]::kF4)++(mP 268::kF5)
theorem Dl {k lo hi:Int} {p q:Nat} (h1:w.heap[p]? =some (.cells #[I lo] 2 (0,0))) (h2:w.heap[q]? =some (.cells #[I hi] 2 (0,0))) (hp: ∀c,isP k c=decide (c.s=[]/\lo<=c.n/\c.n<=hi)):rJ w (nU p q) (λc=>agg (ah c)) (isP k):=
 ⟨267,[],[_,_],rfl,inferInstance,λc w'' hk=>by rw[hp];exact ab8 c (hk.get h1 id) (hk.get h2 id)⟩
theorem acd {b:Nat} {E:Td} (hb:w.heap[b]? =some (.cells #[mP 268] E (0,0))) (hT:l9 w):rJ w (.func (.func 277) #[] #[.pointer (some ⟨b,0,none⟩)]) (λc=>agg (ah c)) (isP 4):=
 ⟨277,[],[_],rfl,inferInstance,λc w'' hk=>ab9 c (hk.get hb id) (hT.keep hk)⟩
theorem ace:rJ w (mP 268) (λc=>agg (ah c)) (isP 5):=
 ⟨268,[],[],rfl,inferInstance,λc w'' _=>Zt c⟩
theorem FV (k:Int):(Af k).length=4:=by unfold Af;(repeat' split)<;>rfl
theorem acf (k:Int):(Af k).all Value.oneCell'=true:=by unfold Af;(repeat' split)<;>rfl
theorem afr (t:bN) (h1:1<=t.kind) (h5:t.kind<=5) (hT:l9 w):aY Tryz.prog 202 [agg (aM t)] w λv w'=>(∃isF,v=agg (isF::Af t.kind)/\rJ w' isF (λc=>agg (ah c)) (isP t.kind))/\Kept noB w w':=by
 have H:=Sep.aJ w;refine tQ Tryz.func202 rfl rfl rfl rfl ?_;refine Sr (cB H (cs:=aM t) rfl (h:=λb0 _ k _=>?_));refine aO k (h:=λb1 _ k _=>?_);refine Zb1 ?_;refine aO k (h:=λb2 _ k _=>?_);refine bB k (h:=λ_ _=>?_);refine Qn (fB (λx:Nat×Nat×Nat×Nat×Nat×Nat×Nat=>[(1,.pointer (some ⟨b0,0,none⟩)),(2,.pointer (some ⟨b1,0,none⟩)),(5,.pointer (some ⟨x.1,0,none⟩))]) (λx w'=>Sep w noB [blk x.1 (xC x.2.2.2.2.2.1 x.2.2.2.2.2.2 x.2.2.2.1 x.2.2.2.2.1 x.2.1 x.2.2.1 b2) 342,blk x.2.1 [I (-9223372036854775808)] 2,blk x.2.2.1 [I 9223372036854775807] 2,blk x.2.2.2.1 [I (-2147483648)] 2,blk x.2.2.2.2.1 [I 2147483647] 2,blk x.2.2.2.2.2.1 [I 0] 2,blk x.2.2.2.2.2.2 [I 1] 2,blk b2 [mP 268] 277,blk b1 (List.replicate 5 .nilFunc) 282,blk b0 (aM t) 50] w') ?_ ?_)
 .refine Ds (λk _ S=>?_)
  refine Zb1 ?_;refine Gm k 3 ?_;refine Gm k 6 ?_;refine Gp k 9 rfl rfl (λ_=>(Gives.makeFunc rfl rfl)) (Gb k 10 ((Value.func (.func 277) #[] #[.pointer (some ⟨b2,0,none⟩)])::kF4) ?_);refine Zb1 ?_;refine Gb k 12 ((mP 268)::kF5) ?_;refine mI k (e1:=1) (e2:=14) kR ?_ ?_
  .refine oP k 1 [(12,true),(11,false),(10,true),(9,true),(6,true),(3,true)] (y:=.tmp 6) (f:=266) (fs:=[]) (cs:=[]) (vals:=[I 0,I 1]) rfl (pY 0 1) (h:=λv' _ hv=>?_)
   obtain⟨p1,q1,rfl,bZ,F',hq,gT⟩:=hv;have a:=(S.new bZ hq λb hb=>(gT b hb).resolve_left id).bR;refine⟨sL,?_⟩;refine Gb k 2 ((nU p1 q1)::kF1) ?_;refine mI k (e1:=4) (e2:=14) kR ?_ ?_
   .refine oP k 4 [(2,true),(12,true),(11,false),(10,true),(9,true),(6,true)] (y:=.tmp 9) (f:=266) (fs:=[]) (cs:=[]) (vals:=[I (-2147483648),I 2147483647]) rfl (pY (-2147483648) 2147483647) (h:=λv' _ hv=>?_)
    obtain⟨p2,q2,rfl,bZ,F',hq,gT⟩:=hv;have d:=(a.new bZ hq λb hb=>(gT b hb).resolve_left id).bR;refine⟨sL,?_⟩;refine Gb k 5 ((nU p2 q2)::kF2) ?_;refine mI k (e1:=7) (e2:=14) kR ?_ ?_
    .refine oP k 7 [(5,true),(2,true),(12,true),(11,false),(10,true),(9,true)] (y:=.tmp 12) (f:=266) (fs:=[]) (cs:=[]) (vals:=[I (-9223372036854775808),I 9223372036854775807]) rfl (pY (-9223372036854775808) 9223372036854775807) (h:=λv' _ hv=>?_)
     obtain⟨p3,q3,rfl,bZ,F',hq,gT⟩:=hv;have g:=(d.new bZ hq λb hb=>(gT b hb).resolve_left id).bR;refine⟨sL,?_⟩;refine Gb k 8 ((nU p3 q3)::kF2) ?_;refine Gp k 13 rfl rfl (λ_=>(Gives.L9 (out:=xC p1 q1 p2 q2 p3 q3 b2) rfl (Bu rfl rfl rfl rfl rfl rfl rfl rfl rfl rfl))) (Er k 14 [(13,true),(8,true),(5,true),(2,true),(12,true),(11,false),(10,true),(9,true)] g (h:=λb5 _ g=>⟨sL,?_⟩));refine dZ k 15 _ g (h:=λ_ g=>⟨sT,?_⟩);refine Zb0 ?_;exact aA (b5,p3,q3,p2,q2,p1,q1) tR g
    refine oN k 14 [(5,true),(2,true),(12,true),(11,false),(10,true),(9,true),(6,true)] d (h:=λb5 _ g=>⟨sL,?_⟩);refine jH k 7 [(5,true),(2,true),(12,true),(11,false),(10,true),(9,true)] (y:=.tmp 12) (f:=266) (fs:=[]) (cs:=[]) (vals:=[I (-9223372036854775808),I 9223372036854775807]) rfl (pY (-9223372036854775808) 9223372036854775807) (h:=λv' _ hv=>?_);obtain⟨p3,q3,rfl,bZ,F',hq,gT⟩:=hv;have d:=(g.new bZ hq λb hb=>(gT b hb).resolve_left id).bR;refine⟨sL,?_⟩;refine Gb k 8 ((nU p3 q3)::kF2) ?_;refine Gp k 13 rfl rfl (λ_=>(Gives.L9 (out:=xC p1 q1 p2 q2 p3 q3 b2) rfl (Bu rfl rfl rfl rfl rfl rfl rfl rfl rfl rfl))) (dZ k 15 _ d (h:=λ_ d=>⟨sT,?_⟩));refine Zb0 ?_;exact aA (b5,p3,q3,p2,q2,p1,q1) tR d.aU
   refine oN k 14 [(2,true),(12,true),(11,false),(10,true),(9,true),(6,true),(3,true)] a (h:=λb5 _ d=>⟨sL,?_⟩);refine jH k 4 [(2,true),(12,true),(11,false),(10,true),(9,true),(6,true)] (y:=.tmp 9) (f:=266) (fs:=[]) (cs:=[]) (vals:=[I (-2147483648),I 2147483647]) rfl (pY (-2147483648) 2147483647) (h:=λv' _ hv=>?_);obtain⟨p2,q2,rfl,bZ,F',hq,gT⟩:=hv;have a:=(d.new bZ hq λb hb=>(gT b hb).resolve_left id).bR;refine⟨sL,?_⟩;refine Gb k 5 ((nU p2 q2)::kF2) ?_;refine jH k 7 [(5,true),(2,true),(12,true),(11,false),(10,true),(9,true)] (y:=.tmp 12) (f:=266) (fs:=[]) (cs:=[]) (vals:=[I (-9223372036854775808),I 9223372036854775807]) rfl (pY (-9223372036854775808) 9223372036854775807) (h:=λv' _ hv=>?_);obtain⟨p3,q3,rfl,bZ,F',hq,gT⟩:=hv;have d:=(a.new bZ hq λb hb=>(gT b hb).resolve_left id).bR;refine⟨sL,?_⟩;refine Gb k 8 ((nU p3 q3)::kF2) ?_;refine Gp k 13 rfl rfl (λ_=>(Gives.L9 (out:=xC p1 q1 p2 q2 p3 q3 b2) rfl (Bu rfl rfl rfl rfl rfl rfl rfl rfl rfl rfl))) (dZ k 15 _ d (h:=λ_ d=>⟨sT,?_⟩));refine Zb0 ?_;exact aA (b5,p3,q3,p2,q2,p1,q1) tR d.fC
  refine oN k 14 [(12,true),(11,false),(10,true),(9,true),(6,true),(3,true),(0,true)] S (h:=λb5 _ d=>⟨sL,?_⟩);refine jH k 1 [(12,true),(11,false),(10,true),(9,true),(6,true),(3,true)] (y:=.tmp 6) (f:=266) (fs:=[]) (cs:=[]) (vals:=[I 0,I 1]) rfl (pY 0 1) (h:=λv' _ hv=>?_);obtain⟨p1,q1,rfl,bZ,F',hq,gT⟩:=hv;have S:=(d.new bZ hq λb hb=>(gT b hb).resolve_left id).bR;refine⟨sL,?_⟩;refine Gb k 2 ((nU p1 q1)::kF1) ?_;refine jH k 4 [(2,true),(12,true),(11,false),(10,true),(9,true),(6,true)] (y:=.tmp 9) (f:=266) (fs:=[]) (cs:=[]) (vals:=[I (-2147483648),I 2147483647]) rfl (pY (-2147483648) 2147483647) (h:=λv' _ hv=>?_);obtain⟨p2,q2,rfl,bZ,F',hq,gT⟩:=hv;have d:=(S.new bZ hq λb hb=>(gT b hb).resolve_left id).bR;refine⟨sL,?_⟩;refine Gb k 5 ((nU p2 q2)::kF2) ?_;refine jH k 7 [(5,true),(2,true),(12,true),(11,false),(10,true),(9,true)] (y:=.tmp 12) (f:=266) (fs:=[]) (cs:=[]) (vals:=[I (-9223372036854775808),I 9223372036854775807]) rfl (pY (-9223372036854775808) 9223372036854775807) (h:=λv' _ hv=>?_);obtain⟨p3,q3,rfl,bZ,F',hq,gT⟩:=hv;have S:=(d.new bZ hq λb hb=>(gT b hb).resolve_left id).bR;refine⟨sL,?_⟩;refine Gb k 8 ((nU p3 q3)::kF2) ?_;refine Gp k 13 rfl rfl (λ_=>(Gives.L9 (out:=xC p1 q1 p2 q2 p3 q3 b2) rfl (Bu rfl rfl rfl rfl rfl rfl rfl rfl rfl rfl))) (dZ k 15 _ S (h:=λ_ S=>⟨sT,?_⟩));refine Zb0 ?_;exact aA (b5,p3,q3,p2,q2,p1,q1) tR S.jL
 rintro⟨b5,p3,q3,p2,q2,p1,q1⟩ τ S S;dsimp only at S;simp only[cK,like,aS,bK];refine Sr ?_;have htn:((t.kind.toNat:Nat):Int)=t.kind:=zde oM
 obtain⟨isV,VE,qY,Ak⟩: ∃isV:Value,((t.kind=1/\isV=nU p1 q1)\/(t.kind=2/\isV=nU p2 q2)\/(t.kind=3/\isV=nU p3 q3)\/(t.kind=4/\isV=Value.func (.func 277) #[] #[.pointer (some ⟨b2,0,none⟩)])\/(t.kind=5/\isV=mP 268))/\isV.oneCell'=true/\((xC p1 q1 p2 q2 p3 q3 b2).drop (0+t.kind.toNat*5)).take 5=isV::Af t.kind:=by
  rcases (by omega :t.kind=1\/t.kind=2\/t.kind=3\/t.kind=4\/t.kind=5)with e | e | e | e | e<;>rw[e]
  .exact⟨_,.inl ⟨rfl,rfl⟩,rfl,rfl⟩
  .exact⟨_,.inr (.inl ⟨rfl,rfl⟩),rfl,rfl⟩
  .exact⟨_,.inr (.inr (.inl ⟨rfl,rfl⟩)),rfl,rfl⟩
  .exact⟨_,.inr (.inr (.inr (.inl ⟨rfl,rfl⟩))),rfl,rfl⟩
  exact⟨_,.inr (.inr (.inr (.inr ⟨rfl,rfl⟩))),rfl,rfl⟩
 refine Vf ?_;refine Zb1 ?_;refine Vv (Gives.Fh (i:=t.kind.toNat) rfl (by rw[htn];rfl) oM) ?_;refine D8 (us:=isV::Af t.kind) (o:=0+t.kind.toNat*5) (b:=b5) S (hx:=by rw[<-Addr.add_lit];rfl) (hat:=by exact aT) (hu:=Ak) (hk:=by rw[zal,FV]) (h:=?_);refine ak S (us:=isV::Af t.kind) (hk:=by rw[zal,FV]) (hv:=by rw[List.all_cons,qY,acf];rfl) (h:=λ_ S=>?_);refine Qn (dX (aN (h:=?_)));refine⟨_,jh S (hk:=by rw[zal,FV]),⟨isV,rfl,?_⟩,S.kept⟩
 rcases VE with⟨e,rfl⟩ | ⟨e,rfl⟩ | ⟨e,rfl⟩ | ⟨e,rfl⟩ | ⟨e,rfl⟩<;>rw[e]
 .exact Dl (by first | exact S.obj At0 | exact S.obj At2 | exact S.obj At4 | exact S.obj At1 | exact S.obj At3 | exact S.obj At5 | exact S.obj At6 | exact S.obj At7) (by first | exact S.obj At0 | exact S.obj At2 | exact S.obj At4 | exact S.obj At1 | exact S.obj At3 | exact S.obj At5 | exact S.obj At6 | exact S.obj At7) (λc=>rfl)
 .exact Dl (by first | exact S.obj At0 | exact S.obj At2 | exact S.obj At4 | exact S.obj At1 | exact S.obj At3 | exact S.obj At5 | exact S.obj At6 | exact S.obj At7) (by first | exact S.obj At0 | exact S.obj At2 | exact S.obj At4 | exact S.obj At1 | exact S.obj At3 | exact S.obj At5 | exact S.obj At6 | exact S.obj At7) (λc=>rfl)
 .exact Dl (by first | exact S.obj At0 | exact S.obj At2 | exact S.obj At4 | exact S.obj At1 | exact S.obj At3 | exact S.obj At5 | exact S.obj At6 | exact S.obj At7) (by first | exact S.obj At0 | exact S.obj At2 | exact S.obj At4 | exact S.obj At1 | exact S.obj At3 | exact S.obj At5 | exact S.obj At6 | exact S.obj At7) (λc=>rfl)
 .exact acd (by first | exact S.obj At7 | exact S.obj At6 | exact S.obj At5 | exact S.obj At4) (hT.keep S.kept)
 exact ace
end
attribute [local irreducible] nC isP Af
section
variable {w:Wd}
theorem afs {t:bN}:nC t=true↔1<=t.kind/\t.kind<=5:=by unfold nC;exact decide_eq_true_iff
theorem rZ (t:bN) (c:ay) (hf:fits c.n) (hT:l9 w):Rk Tryz.prog 144 [agg (aM t),agg (ah c)] w (I (eF t c)):=by
 have H:=Sep.aJ w;obtain⟨res,au⟩: ∃res,res=eF t c:=⟨_,rfl⟩;rw[<-au];unfold eF at au;refine dF Tryz.func144 rfl rfl rfl rfl ?_;refine Sr (cB H (cs:=aM t) rfl (h:=λb0 _ k _=>?_));refine cB k (cs:=ah c) rfl (h:=λb1 _ k _=>?_);refine Zb2 ?_;refine aD k (yJ t) (h:=λ_ k _=>?_);refine Za2 ?_;refine Qn (Cd rfl (λS=>?_) (λS=>?_))
 .have hm:nC t=false:=by have h:=S;revert h;cases nC t<;>simp
  rw[zac hm]at au;refine Zb1 ?_;exact⟨by rw[au];rfl,k.kept⟩
 have hm:nC t=true:=by have h:=S;revert h;cases nC t<;>simp
 rw[zab (by rw[hm];simp)]at au;obtain⟨h1,h5⟩:=afs.1 hm;refine Zb3 ?_;refine gu (t:=12) rfl (λS=>?_) (λS=>?_)
 .have VT:c.null=true:=S
  rw[zac VT]at au;refine Zb4 ?_;refine gu (t:=16) rfl (λa=>?_) (λa=>?_)
  .have htn:t.null=false:=by have h:=a;revert h;cases t.null<;>simp
   rw[zab (by rw[htn];simp)]at au;refine Zb4 ?_;exact⟨by rw[au];rfl,k.kept⟩
  have htn:t.null=true:=by have h:=a;revert h;cases t.null<;>simp
  refine Zb1 ?_;refine Vb (ah bU) ?_;refine On (Vv (Gives.ahl (enc:=ah) _ _ rfl rfl) (Za3 ?_));refine Qn (Cp rfl (λa=>?_) (λa=>?_))
  .rw[zab (λh=>a h.2)]at au
   refine Sk (rT (zbb Value.bool (zbj a)) ?_);refine Zb1 ?_;exact⟨by rw[au];rfl,k.kept⟩
  rw[zac ⟨htn,zca.1 a⟩]at au;refine Ds (λa _ k=>?_);refine Zb4 ?_;refine Lu (t:=25) rfl (λb=>?_) (λb=>?_)
  .exact zap b (by rw[VT];simp)
  refine Oj a 4 rfl rfl kR ?_;refine Oj a 7 rfl rfl kR ?_;refine Oj a 5 rfl rfl kR ?_;refine Oj a 6 rfl rfl kR ?_;refine Oj a 8 rfl rfl kR ?_;refine Zb3 ?_;exact⟨by rw[au];rfl,k.kept⟩
 have VT: ¬c.null=true:=by have h:=S;simpa using h
 rw[zab VT,<-ajE hf]at au;refine Zb2 ?_;refine Ds (λb _ k=>?_);refine Zb4 ?_;refine Lu (t:=25) rfl (λa=>?_) (λa=>?_)
 .refine Zb1 ?_
  refine pq b 7 k (h:=?_);refine rD b 5 [(7,false)] rfl kR (afr t h1 h5 (hT.keep k.kept)) rfl kR kR (λv' _ hv=>?_);obtain⟨⟨isF,rfl,hp⟩,bZ⟩:=hv;obtain⟨f,fs,cs,rfl,Dn,p8⟩:=hp;have S:=k.keep bZ;refine⟨(dw rfl kR (Gives.JZ rfl (S.obj At0) (us:=ah c) rfl rfl) rfl (eZ)),?_⟩;refine Zb1 ?_;refine jH b 8 _ (y:=.tmp 28) (f:=f) (fs:=fs) (cs:=cs) (vals:=[agg (ah c)]) rfl (p8 c _ (Kept.refl _ _)) (h:=λv' _ hv=>?_);obtain⟨rfl,ajO⟩:=hv;have k:=S.keep ajO;refine⟨sT,?_⟩;refine Za3 ?_;refine fF b kR ?_;refine bC (Cd rfl (λS=>?_) (λS=>?_))
  .rw[zab (by have h:=S;revert h;cases isP t.kind c<;>simp)]at au
   refine Zb1 ?_;exact⟨by rw[au];rfl,k.kept⟩
  rw[zac (by have h:=S;revert h;cases isP t.kind c<;>simp)]at au;refine Zb1 ?_;exact⟨by rw[au];rfl,k.kept⟩
 exact zap (show c.null=true by have h:=a;revert h;cases c.null<;>simp) VT
end
end Go.Proofs.YtkfpleidaoaonaaGreatDoor
namespace Go.Mw
open Go.RowKit
section gives
variable {P:Program} {ρ:Od->Value} {ty:Td} {w:Wd} {x y:Od} {T U:Td} {k:IntKind} {a b:Int}
theorem Gives.andNot (hx:ρ x=.int k a) (hy:ρ y=.int k b):Gives P ρ (.binOp .andNot T x y U) ty w (.int k (bits .andNot k a b)) w:=.bin hx hy (λ_ _=>rfl) (by rw[binOp_andNot];rfl)
end gives
end Go.Mw
namespace Go.Proofs.YtkfpleidaoaonaaGreatDoor
open Go Go.Mw Go.Lib
set_option maxRecDepth 4000
attribute [local irreducible] FW FL FG FGn fZ gG cO gW Qfn Gives
theorem Vs {y:Nat} (hy:y<18446744073709551616):y&&& 18446744073709551614=0↔y<=1:=by
 constructor
 .intro h
  have h1:=Nat.and_div_two (a:=y) (b:=18446744073709551614);rw[h,show 18446744073709551614/2=2^63-1 from dC,Nat.and_two_pow_sub_one_eq_mod]at h1;have h2:y/2%2^63=y/2:=Nat.mod_eq_of_lt oM;omega
 intro h
 rcases (by omega :y=0\/y=1)with rfl | rfl<;>decide
theorem Zu {n:Int} (hf:fits n):bits .andNot .i64 n 1=0↔0<=n/\n<=1:=by
 obtain⟨h0,h1⟩:=hf;show IntKind.i64.wrap ((BitVec.ofInt 64 n&&& ~~~BitVec.ofInt 64 1).toNat:Int)=0↔_
 have e1:(BitVec.ofInt 64 1).toNat=1:=dC;have e2:(BitVec.ofInt 64 n).toNat=(n%18446744073709551616).toNat:=BitVec.toNat_ofInt n;have bH:(n%18446744073709551616).toNat<18446744073709551616:=oM;rw[BitVec.toNat_and,BitVec.toNat_not,e1,e2,show 2^64-1-1=18446744073709551614 from dC,IntKind.wrap_i64];have q9:(n%18446744073709551616).toNat&&& 18446744073709551614<=(n%18446744073709551616).toNat:=Nat.and_le_left;have key:=Vs bH;constructor
 .intro h
  have :(n%18446744073709551616).toNat&&& 18446744073709551614=0:=by omega
  have:=key.1 this;omega
 intro h;rw[key.2 oM]
 decide
theorem Mc {s:L8}:eF ⟨4,false⟩ ⟨false,0,s⟩=0↔s.length<=1024/\validD s=true:=by
 have e:eF ⟨4,false⟩ ⟨false,0,s⟩=if decide ((0:Int)=0/\s.length<=1024/\validD s=true)=true then 0 else 90:=rfl
 rw[e]
 by_cases h:s.length<=1024/\validD s=true
 .rw[zac (zbj ⟨rfl,h⟩)];exact⟨λ_=>h,λ_=>rfl⟩
 rw[zab (by rw[decide_eq_true_eq];exact λe=>h e.2)];exact⟨λe=>zap e dC,λe=>zap e h⟩
theorem Je {s:L8}:eF ⟨5,false⟩ ⟨false,0,s⟩=0↔s.length<=1024:=by
 have e:eF ⟨5,false⟩ ⟨false,0,s⟩=if decide ((0:Int)=0/\s.length<=1024)=true then 0 else 90:=rfl
 rw[e]
 by_cases h:s.length<=1024
 .rw[zac (zbj ⟨rfl,h⟩)];exact⟨λ_=>h,λ_=>rfl⟩
 rw[zab (by rw[decide_eq_true_eq];exact λe=>h e.2)];exact⟨λe=>zap e dC,λe=>zap e h⟩
theorem aip:fits 0:=⟨dC,dC⟩
theorem Vt {k:Int}:nD k≠[]↔k=1\/(3<=k/\k<=5):=by
 unfold nD
 split
 .simp[*]
 split
 .simp[*]
 split
 .simp[*]
 split
 .simp[*]
 simp;omega
attribute [local irreducible] eF nD
section
variable {w:Wd}
theorem Yk (x:aZ) (hf:fits x.n) (hT:l9 w):Rk Tryz.prog 123 [agg (aP x)] w (.bool (iE x)):=by
 have H:=Sep.aJ w;obtain⟨res,au⟩: ∃res,res=iE x:=⟨_,rfl⟩;rw[<-au];unfold iE at au;refine dI Tryz.func123 rfl rfl rfl rfl ?_;refine Sr (cB H (cs:=aP x) rfl (h:=λb0 _ _ _=>?_));refine Zb1 ?_;refine Ds (λ_ _ k=>?_);refine alk ?_;refine Qn (Cp rfl (λS=>?_) (λS=>?_))
 .rw[zac S]at au
  refine Zb2 ?_;refine aF (t:=16) rfl (λI=>?_) (λI=>?_)
  .have hA:=I
   refine Zb5 ?_;refine aF (t:=21) rfl (λa=>?_) (λa=>?_)
   .have hB:=a
    refine Zb5 ?_;exact⟨zbb Value.bool (by rw[au];exact zbg.2 ⟨λh=>⟨hA,hB,h⟩,λh=>h.2.2⟩),k.kept⟩
   have hB:=a;refine Zb2 ?_;exact⟨zbb Value.bool (by rw[au];exact Eq.symm (zas λh=>hB h.2.1)),k.kept⟩
  have hA:=I;refine Zb4 ?_;exact⟨zbb Value.bool (by rw[au];exact Eq.symm (zas λh=>hA h.1)),k.kept⟩
 rw[zab S]at au;refine Za2 ?_;refine Qn (Cp rfl (λa=>?_) (λa=>?_))
 .rw[zac a]at au
  refine Zb2 ?_;exact⟨by rw[au];rfl,k.kept⟩
 rw[zab a]at au;refine Za2 ?_;refine Qn (Cp rfl (λa=>?_) (λa=>?_))
 .rw[zac a]at au
  refine Zb2 ?_;refine aF (t:=32) rfl (λI=>?_) (λI=>?_)
  .have hA:=I
   refine Zb2 ?_;refine Vv (Gives.andNot rfl rfl) (Zb3 ?_);exact⟨zbb Value.bool (by rw[au];exact zbg.2 ⟨λh=>⟨hA,(Zu hf).1 h⟩,λh=>(Zu hf).2 h.2⟩),k.kept⟩
  have hA:=I;refine Zb2 ?_;exact⟨zbb Value.bool (by rw[au];exact Eq.symm (zas λh=>hA h.1)),k.kept⟩
 rw[zab a]at au;refine Za2 ?_;refine Qn (Cp rfl (λI=>?_) (λI=>?_))
 .rw[zac I]at au
  refine Zb2 ?_;refine aF (t:=41) rfl (λa=>?_) (λa=>?_)
  .have hA:=a
   refine On (Vb (aM ⟨4,false⟩) ?_);refine Zb2 ?_;refine Vb (ah ⟨false,0,x.s⟩) ?_;refine On (aD k (rZ ⟨4,false⟩ ⟨false,0,x.s⟩ aip (hT.keep k.kept)) (h:=λ_ S _=>?_));refine Zb3 ?_;exact⟨zbb Value.bool (by rw[au];exact zbg.2 ⟨λh=>⟨hA,Mc.1 h⟩,λh=>Mc.2 h.2⟩),S.kept⟩
  have hA:=a;refine Zb2 ?_;exact⟨zbb Value.bool (by rw[au];exact Eq.symm (zas λh=>hA h.1)),k.kept⟩
 rw[zab I]at au;refine Za2 ?_;refine Qn (Cp rfl (λS=>?_) (λS=>?_))
 .rw[zac S]at au
  refine Zb2 ?_;refine aF (t:=52) rfl (λa=>?_) (λa=>?_)
  .have hA:=a
   refine On (Vb (aM ⟨5,false⟩) ?_);refine Zb2 ?_;refine Vb (ah ⟨false,0,x.s⟩) ?_;refine On (aD k (rZ ⟨5,false⟩ ⟨false,0,x.s⟩ aip (hT.keep k.kept)) (h:=λ_ I _=>?_));refine Zb3 ?_;exact⟨zbb Value.bool (by rw[au];exact zbg.2 ⟨λh=>⟨hA,Je.1 h⟩,λh=>Je.2 h.2⟩),I.kept⟩
  have hA:=a;refine Zb2 ?_;exact⟨zbb Value.bool (by rw[au];exact Eq.symm (zas λh=>hA h.1)),k.kept⟩
 rw[zab S]at au;refine Za2 ?_;refine Qn (Cp rfl (λI=>?_) (λI=>?_))
 .rw[zac I]at au
  refine Zb2 ?_;refine aF (t:=63) rfl (λa=>?_) (λa=>?_)
  .have hA:=a
   refine Zb2 ?_;refine aD k (Ro x.n) (h:=λ_ S _=>?_);refine Zb3 ?_;refine aF (t:=69) rfl (λb=>?_) (λb=>?_)
   .have hB:=b
    refine Zb7 ?_;exact⟨zbb Value.bool (by rw[au];exact zbg.2 ⟨λ_=>⟨hA,Vt.1 hB⟩,λ_=>trivial⟩),S.kept⟩
   have hB:=b;refine Zb2 ?_;exact⟨zbb Value.bool (by rw[au];exact Eq.symm (zas λh=>hB (Vt.2 h.2))),S.kept⟩
  have hA:=a;refine Zb4 ?_;exact⟨zbb Value.bool (by rw[au];exact Eq.symm (zas λh=>hA h.1)),k.kept⟩
 rw[zab I]at au;refine Zb4 ?_;refine aF (t:=79) rfl (λb=>?_) (λb=>?_)
 .have hA:=b
  refine Zb5 ?_;refine aF (t:=84) rfl (λS=>?_) (λS=>?_)
  .have hB:=S
   refine Zb3 ?_;refine aF (t:=87) rfl (λa=>?_) (λa=>?_)
   .have hC:=a
    refine Zb3 ?_;exact⟨zbb Value.bool (by rw[au];exact zbg.2 ⟨λh=>⟨hA,hB,h,hC⟩,λh=>h.2.2.1⟩),k.kept⟩
   have hC:=a;refine Zb2 ?_;exact⟨zbb Value.bool (by rw[au];exact Eq.symm (zas λh=>hC h.2.2.2)),k.kept⟩
  have hB:=S;refine Zb4 ?_;exact⟨zbb Value.bool (by rw[au];exact Eq.symm (zas λh=>hB h.2.1)),k.kept⟩
 have hA:=b;refine Zb6 ?_;exact⟨zbb Value.bool (by rw[au];exact Eq.symm (zas λh=>hA h.1)),k.kept⟩
end
end Go.Proofs.YtkfpleidaoaonaaGreatDoor
namespace Go.Proofs.YtkfpleidaoaonaaGreatDoor
open Go Go.Mw Go.Lib Go.Proofs.Tryz
set_option maxRecDepth 4000
attribute [local irreducible] FW FL FG FGn fZ gG cO gW Qfn Gives
def Zv (K:Nat) (A:OA) (n c k:Nat):Value:=if k<=n then .slice (if c=n-k then A else A.map (·.add ((n-k)*K))) k (c-(n-k))else .slice none 0 0
def leftV (A:OA) (n c k:Nat):Value:=if k<=n then .slice A (n-k) (n-k)else .slice A n c
theorem Pg (k:Int):dz k<=2:=by unfold dz;(repeat' split)<;>omega
theorem Ph {x:aZ} (h:iE x=true):1<=x.kind/\x.kind<=18:=by
 unfold iE at h
 repeat' split at h
 all_goals first | omega | (have:=zba h;omega)
theorem r9 {k:Int}:dz k=0↔k<7:=by
 unfold dz
 split
 .simp[*]
 split<;>simp<;>omega
theorem Vu {α:Type} {k:Int} {st:List α} {d:α} (h7:7<=k) (hk:dz k<=st.length):Ad k (st.drop (st.length-dz k)) (st.getD (st.length-dz k) d) (st.getD (st.length-1) d):=by
 unfold dz at hk ⊢;rw[zab oM]at hk |-
 by_cases h1:k=10\/k=15\/k=16\/k=18
 .rw[zac h1]at hk |-
  left
  refine⟨?_,rfl,h1⟩;have bH:st.length-1<st.length:=oM;rw[zbn bH,zbu oM,zak,zaa bH];rfl
 rw[zab h1]at hk |-
 right
 refine⟨?_,oM⟩;have bH:st.length-2<st.length:=oM;have Dp:st.length-2+1<st.length:=oM;have e:st.length-1=st.length-2+1:=oM;rw[e,zbn bH,zbn Dp,zbu oM,zak,zaa bH,zak,zaa Dp];rfl
def M9 (cols:List bF) (st:List bN) (x:aZ):Option bN:=
 if dz x.kind=0 then je cols x else Cm x.kind (st.getD (st.length-dz x.kind) jF) (st.getD (st.length-1) jF)
theorem Yl {cols:List bF} {st:List bN} {x:aZ} (h1:iE x=true) (h2:dz x.kind<=st.length):stepT cols st x=(M9 cols st x).map λt=>st.take (st.length-dz x.kind)++[t]:=by
 unfold stepT M9;dsimp only;rw[zab (by rw[h1];simp;omega)]
theorem FX {cols:List bF} {st:List bN} {x:aZ} (h:iE x=false\/st.length<dz x.kind):stepT cols st x=none:=by
 unfold stepT;dsimp only;rw[zac h]
theorem Sep.aft {α:Type} {enc:α->LV} {k e n c:Nat} {l:List α} {A:OA} {w w0:Wd} {S:NP} {rs:List HP} {put:HP->List HP} (H:Sep w0 S rs w) (hat:At rs (bJ e k enc (.slice A n c) l) put):c<=9223372036854775807:=by
 obtain⟨F,hp,_,_⟩:=H.focus hat
 rcases hp.1.2 with⟨hv,h0⟩ | ⟨g,cap,cur,hv,_,hh,q9,hmax,_⟩
 .injection hv with _ _ h;omega
 injection hv with _ _ h;unfold maxLen at hmax;omega
theorem Md {α:Type} {enc:α->LV} {k:Nat} [hk:jf enc k] {w:Wd} {A:OA} {l:List α} {c j:Nat} (h:Rd w A enc k l) (hc:l.length<=c) (hc2:c<=9223372036854775807) (hj:j<=l.length):aQ w (.slice (if c=l.length-j then A else A.map (·.add ((l.length-j)*k))) j (c-(l.length-j))) enc k (l.drop (l.length-j)):=by
 refine⟨if c=l.length-j then A else A.map (·.add ((l.length-j)*k)),c-(l.length-j),?_,⟨?_,?_⟩,h.alA (l.length-j) hc⟩
 .rw[zbq,show l.length-(l.length-j)=j from oM]
 .rw[zbq];omega
 omega
section
variable {w:Wd}
theorem Ym {b E n c k:Nat} {A:OA} {F:NP} {f:FuncId} (hp:(blk b [.slice A n c] E).ok F w) (hk:k<=1000000)
    (F8:k<=n->aY prog f [.pointer (some ⟨b,0,none⟩),I k] w λv w'=>v=.tuple #[.slice (if c=n-k then A else A.map (·.add ((n-k)*2))) k (c-(n-k)),.bool true]/\Turn F (blk b [.slice A (n-k) (n-k)] E) w w')
    (nI:n<k->aY prog f [.pointer (some ⟨b,0,none⟩),I k] w λv w'=>v=.tuple #[.slice none 0 0,.bool false]/\Turn F (blk b [.slice A n c] E) w w'):
    aY prog f [.pointer (some ⟨b,0,none⟩),I k] w λv w'=>v=.tuple #[Zv 2 A n c k,.bool (decide (k<=n))]/\Turn F (blk b [leftV A n c k] E) w w':=by
  by_cases h:k<=n
  . rw[Zv,leftV,zac h,zac h,zbj h];exact F8 h
  rw[Zv,leftV,zab h,zab h,zas h];exact nI oM
attribute [local irreducible] iE nC je Cm
theorem Me {cols:List bF} {l:List aZ} {vc vl:Value} (hc:aQ w vc aX 7 cols) (hl:aQ w vl aP 3 l) (hx: ∀x∈l,fits x.n) (hT:l9 w):Rk prog 79 [vc,vl] w (.tuple #[agg (aM (iA cols l).1),I (iA cols l).2]):=by
  have ZK:=hc;obtain⟨A,m,rfl,⟨hm,qX⟩,hA⟩:=hc;obtain⟨C,n,rfl,⟨hn,hn'⟩,hC⟩:=hl;have H:=Sep.aJ w;obtain⟨res,au⟩: ∃res,res=iA cols l:=⟨_,rfl⟩;rw[<-au];unfold iA at au;refine zR func79 rfl rfl rfl rfl ?_;refine Sr (aO H (h:=λb4 _ k _=>?_));refine Za4 ?_;refine Qn (Cp rfl (λS=>?_) (λS=>?_))
  . rw[zac oM]at au
    refine Sr (Vb (aM jF) ?_);refine ak k (h:=λ_ S=>?_);refine Am ?_;refine Qn (Rs (aN (h:=?_)));exact⟨_,gK S,by rw[au];rfl,S.kept⟩
  rw[zab oM]at au;refine Zb0 ?_;refine aO k (h:=λb6 _ S _=>?_);refine Zb3 ?_;have k:=Sep.nE S 50 2 aM;refine aR (λx:Nat×List bN×Value=>[(0,.slice A cols.length m),(4,.pointer (some ⟨b4,0,none⟩)),(6,.pointer (some ⟨b6,0,none⟩)),(16,.slice C l.length n),(17,I l.length),(18,I x.1)]) (λx w'=>(x.1<=l.length/\x.2.1.length<=x.1/\runT cols x.2.1 (l.drop x.1)=runT cols [] l)/\Sep w noB [bJ 50 2 aM x.2.2 x.2.1,blk b6 [x.2.2] 192,blk b4 (aM jF) 50] w') (λx _=>l.length-x.1) (0,[],.slice none 0 0) tR ⟨⟨zaq _,zbk _,rfl⟩,k⟩ (λx τ _ hI=>?_);obtain⟨i,st,v0⟩:=x;obtain⟨⟨hi,hsl,fU⟩,k⟩:=hI;dsimp only at hi hsl fU k;obtain⟨B,cb,rfl,Po,hB⟩:=Sep.dQ k At0
  try simp only[cK,like,aS,bK]
  refine Za1 ?_;refine Qn (dW (Cp rfl (λS=>?_) (λS=>?_)))
  . have bH:i<l.length:=oM
    obtain⟨x,EC⟩:=get_some bH
    have hdr:l.drop i=x::l.drop (i+1):=by
      rw[zbn bH];rw[zaa bH]at EC;injection EC with EC;rw[EC]
    rw[hdr,runT]at fU;have hfx:=hx x (zam EC);have hk2:=Pg x.kind;refine Zb2 ?_;refine aO k (h:=λb8 _ S _=>?_);refine ak S (h:=λ_ S=>?_);refine Zb2 ?_;refine aD S (Zr x.kind) (h:=λ_ S _=>?_);obtain⟨F0,dS,gH,aI⟩:=S.focus At2;refine aK (Ym dS oM (λh=>Rm dS h Po oM) (λh=>L6 dS h oM)) rfl rfl (λv' _ hv=>?_);obtain⟨rfl,bZ,F1,hq,hs⟩:=hv;have S:=aI _ F1 _ bZ hq hs;refine Zb8 ?_;refine aF (t:=31) rfl (λa=>?_) (λa=>?_)
    . rw[FX (.inr oM)]at fU
      rw[<-fU]at au;have fu:res=(jF,220):=au;refine Zb1 ?_;refine Vb (aM jF) ?_;refine ak S (h:=λ_ a=>?_);refine Am ?_;refine Qn (Rs (bM (dM (lQ (bM (dM (aN (h:=?_))))))));exact⟨_,gK a,by rw[fu];rfl,a.kept⟩
    have hkn:dz x.kind<=st.length:=oM;rw[Zv,zac hkn];rw[leftV,zac hkn]at S;refine Zb1 ?_;refine aD S (Yk x hfx (hT.keep S.kept)) (h:=λ_ a _=>?_);refine Za2 ?_;refine Qn (Cd rfl (λS=>?_) (λS=>?_))
    . rw[FX (.inl (by have h:=S;revert h;cases iE x<;>simp))]at fU
      rw[<-fU]at au;have fu:res=(jF,220):=au;refine Sr (Vb (aM jF) ?_);refine ak a (h:=λ_ b=>?_);refine Am ?_;refine Qn (Rs (bM (dM (lQ (bM (dM (aN (h:=?_))))))));exact⟨_,gK b,by rw[fu];rfl,b.kept⟩
    have VI:iE x=true:=by have h:=S;revert h;cases iE x<;>simp
    obtain⟨lY,akl⟩:=Ph VI;rw[Yl VI hkn]at fU;refine Zb0 ?_;refine aO a (h:=λb11 _ b _=>?_);refine Qn (fB (λtp:bN=>[(0,.slice A cols.length m),(4,.pointer (some ⟨b4,0,none⟩)),(6,.pointer (some ⟨b6,0,none⟩)),(8,.pointer (some ⟨b8,0,none⟩)),(10,.bool (M9 cols st x).isSome),(11,.pointer (some ⟨b11,0,none⟩)),(16,.slice C l.length n),(17,I l.length),(18,I i)]) (λtp w'=>(∀y,M9 cols st x=some y->tp=y)/\Sep w noB [blk b11 (aM tp) 50,blk b8 (aP x) 92,bJ 50 2 aM (.slice B st.length cb) st,blk b6 [.slice B (st.length-dz x.kind) (st.length-dz x.kind)] 192,blk b4 (aM jF) 50] w') ?_ ?_)
    . refine Za3 ?_
      refine Qn (Cp rfl (λS=>?_) (λS=>?_))
      . have yK:dz x.kind=0:=oM
        have hrt:M9 cols st x=je cols x:=zac yK;have hk6:x.kind<=6:=by have:=r9.1 yK;omega
        refine Zb2 ?_;refine aD b (ajD x (ZK.keep b.kept) lY hk6) (h:=λ_ S _=>?_);refine Zb3 ?_;refine ak S (h:=λ_ S=>?_);refine Zb1 ?_;exact aA ((je cols x).getD jF) ⟨rfl,rfl,rfl,rfl,by rw[hrt];rfl,rfl,rfl,rfl,rfl,trivial⟩ ⟨λy hy=>by rw[hrt]at hy;rw[hy];rfl,S⟩
      have yK: ¬dz x.kind=0:=oM;have hrt:M9 cols st x=Cm x.kind (st.getD (st.length-dz x.kind) jF) (st.getD (st.length-1) jF):=zab yK
      have hk7:7<=x.kind:=by
        refine Classical.byContradiction λh=>yK (r9.2 oM)
      refine Zb3 ?_;refine aK (afq (Md (jG b At2) Po (Sep.aft b At2) hkn) (Vu (d:=jF) hk7 hkn) hk7 akl) rfl rfl (λv' _ hv=>?_);obtain⟨⟨tp,rfl,htp⟩,bZ⟩:=hv;have S:=b.keep bZ;refine Zb3 ?_;refine ak S (h:=λ_ S=>?_);refine Zb1 ?_;exact aA tp ⟨rfl,rfl,rfl,rfl,by rw[hrt];rfl,rfl,rfl,rfl,rfl,trivial⟩ ⟨λy hy=>by rw[hrt]at hy;exact htp y hy,S⟩
    rintro tp τ S ⟨htp,S⟩;simp only[cK,like,aS];refine Za2 ?_;refine Qn (Cd rfl (λb=>?_) (λb=>?_))
    . have nI:M9 cols st x=none:=by
        cases h:M9 cols st x with
        | none=>rfl
        | some y=>rw[h]at b;cases b
      rw[nI]at fU;rw[<-fU]at au;have fu:res=(jF,220):=au;refine Sr (Vb (aM jF) ?_);refine ak S (h:=λ_ a=>?_);refine Am ?_;refine Qn (Rs (bM (dM (lQ (bM (dM (aN (h:=?_))))))));exact⟨_,gK a,by rw[fu];rfl,a.kept⟩
    obtain⟨y,hy⟩: ∃y,M9 cols st x=some y:=by
      cases h:M9 cols st x with
      | none=>rw[h]at b;cases b
      | some y=>exact⟨y,rfl⟩
    have hty:=htp y hy;subst hty;rw[hy]at fU;refine Zb1 ?_;refine Bs S ([tp].flatMap aM) (λbs _ a _=>?_);obtain⟨F0,dS,gH,aI⟩:=a.focus At4;have Ml:(st.take (st.length-dz x.kind)).length=st.length-dz x.kind:=by rw[zaj];omega
    have hRc:=(jG a At3).cut (st.length-dz x.kind);have Jz:aQ _ (.slice (some ⟨bs,0,none⟩) 1 1) aM 2 [tp]:=⟨some ⟨bs,0,none⟩,1,rfl,⟨sM,oM⟩,Sep.nA a At0 rfl⟩;refine aK (Vr (l:=st.take (st.length-dz x.kind)) (by rw[Ml];exact dS) hRc Jz sM (by simp;omega)) rfl rfl (λv' _ hv=>?_);obtain⟨v2,rfl,_,bZ,F1,hq,hs⟩:=hv;have a:=((aI _ F1 _ bZ hq hs).fC).bR;refine Zb2 ?_;exact aj (i+1,st.take (st.length-dz x.kind)++[tp],v2) tR ⟨⟨dO,by dsimp only;rw[zad,Ml];simp;omega,fU⟩,(a.jL.aL.aU).firsts (l:=[_,_,_])⟩ dO
  have oQ:i=l.length:=oM;rw[oQ,zfd,runT]at fU;rw[<-fU]at au;refine Za4 ?_;refine Qn (Cp rfl (λa=>?_) (λa=>?_))
  . have fu:res=(jF,220):=by
      rw[au]
      match st,a with
      | [],_=>rfl
      | [t],h=>exact zap rfl h
      | t::u::r,_=>rfl
    refine Sr (Vb (aM jF) ?_);refine ak k (h:=λ_ a=>?_);refine Am ?_;refine Qn (Rs (aN (h:=?_)));exact⟨_,gK a,by rw[fu];rfl,a.kept⟩
  obtain⟨t,ht⟩: ∃t,st=[t]:=List.length_eq_one_iff.1 oM;have hg0:st[0]? =some t:=by rw[ht];rfl
  have fu:res=(t,0):=by rw[au,ht]
  refine Zb2 ?_;refine Vv (Gives.jJ (i:=0) rfl rfl hB oM) (Vv (Gives.FT (i:=0) rfl hB hg0) ?_);refine ak k (h:=λ_ a=>?_);refine Am ?_;refine Qn (dX (aN (h:=?_)));exact⟨_,gK a,by rw[fu];rfl,a.kept⟩
end
end Go.Proofs.YtkfpleidaoaonaaGreatDoor
namespace Go.Proofs.YtkfpleidaoaonaaGreatDoor
open Go Go.Mw Go.Lib Go.Proofs.Tryz
set_option maxRecDepth 4000
attribute [local irreducible] FW FL FG FGn fZ gG cO gW Qfn Gives
def BL (a b:Int):Int:=if a<b then -1 else if b<a then 1 else 0
def orI (l:List Int):Int:=(l.find? λx=>decide (x≠0)).getD 0
theorem ajF (a b:ay) (h:a.null=b.null):orI [BL a.n b.n,compareBytes a.s b.s]=rE a b:=by
 unfold orI BL rE;rw[zac h]
 by_cases h1:a.n<b.n
 .rw[zac h1,zac h1];rfl
 rw[zab h1,zab h1]
 by_cases h2:b.n<a.n
 .rw[zac h2,zac h2];rfl
 rw[zab h2,zab h2]
 rcases O8 a.s b.s with e | e | e<;>rw[e]<;>rfl
theorem Bv {a b:Int} (h0:a≠0) (ha:fits a) (hb:fits b):(IntKind.i64.wrap ((IntKind.i64.wrap (a*b)).tdiv a)≠b\/(a= -1/\b= -9223372036854775808))↔¬eO (a*b)=true:=by
 obtain⟨ZE,ha2⟩:=ha;obtain⟨Na,hb2⟩:=hb
 by_cases hm:a= -1
 .subst hm
  have e:(-1:Int)*b= -b:=oM;rw[e];have hf:eO (-b)=decide (b≠ -9223372036854775808):=by unfold eO;rw[zbg];omega
  rw[hf]
  by_cases ahX:b= -9223372036854775808
  .subst ahX;decide
  have e2:IntKind.i64.wrap (-b)= -b:=wrap64 oM;have e3:(-b).tdiv (-1)=b:=by rw[Int.tdiv_neg,Int.tdiv_one];omega
  rw[e2,e3,wrap64 ⟨Na,hb2⟩];simp[ahX]
 have hq:=afk (n:=IntKind.i64.wrap (a*b)) (by rw[IntKind.wrap_i64];omega) h0 hm;rw[wrap64 hq];have:=abZ (a:=b) (b:=a) h0 ⟨ZE,ha2⟩;rw[Int.mul_comm b a]at this;rw[<-this];constructor
 .rintro(h | h)
  .exact h
  exact zap h.1 hm
 exact .inl
section
variable {w:Wd}
theorem dH (b:Bool):Rk prog 198 [.bool b] w (agg (ah (iK b))):=by
 have H:=Sep.aJ w;refine tQ func198 rfl rfl rfl rfl ?_;refine Sr (aO H (h:=λb1 _ k _=>?_));refine Za1 ?_;refine Qn (Cd rfl (λS=>?_) (λS=>?_))
 .have hb:=S
  refine Sr (Vb (ah (iK true)) ?_);refine ak k (h:=λ_ I=>?_);refine Qn (Rs (aN (h:=?_)));exact⟨_,jh I,by rw[show b=true by simpa using hb];rfl,I.kept⟩
 have hb:=S;refine Zb0 ?_;refine Vb (ah (iK false)) ?_;refine ak k (h:=λ_ I=>?_);refine Qn (dX (aN (h:=?_)));exact⟨_,jh I,by rw[show b=false by simpa using hb];rfl,I.kept⟩
theorem Vw (n:Int):aY prog 293 [I n] w λv w'=>v=.bool false/\w=w':=by
 have H:=Sep.aJ w;refine dI func293 rfl rfl rfl rfl ?_;refine Zb5 ?_;exact⟨zbb Value.bool sM,rfl⟩
theorem ahy (a b:Int):aY prog 209 [I a,I b] w λv w'=>v=I (BL a b)/\w=w':=by
 have H:=Sep.aJ w;refine dF func209 rfl rfl rfl rfl ?_;refine Zb2 ?_;refine eY (Vw a) (h:=?_);refine Zb2 ?_;refine eY (Vw b) (h:=?_);refine Za2 ?_;refine Qn (Cd rfl (λk=>?_) (λk=>?_))
 .cases k
 refine Za1 ?_;refine Qn (Cd rfl (λk=>?_) (λk=>?_))
 .cases k
 refine Za3 ?_;refine Qn (Cp rfl (λk=>?_) (λk=>?_))
 .have h1:=k
  refine Zb1 ?_;exact⟨by unfold BL;rw[zac h1];rfl,rfl⟩
 have h1:=k;refine Za3 ?_;refine Qn (Cp rfl (λk=>?_) (λk=>?_))
 .have h2:=k
  refine Zb1 ?_;exact⟨by unfold BL;rw[zab h1,zac oM];rfl,rfl⟩
 have h2:=k;refine Zb1 ?_;exact⟨by unfold BL;rw[zab h1,zab oM];rfl,rfl⟩
theorem ajG {l:List Int} {v:Value} (hl:aQ w v intCells 1 l):Rk prog 208 [v] w (I (orI l)):=by
 obtain⟨A,m,rfl,⟨hm,qX⟩,hA⟩:=hl;have H:=Sep.aJ w;refine dI func208 rfl rfl rfl rfl ?_;refine Zb5 ?_;refine aR (λi:Nat=>[(3,I 0),(6,.slice A l.length m),(7,I l.length),(8,I i)]) (λi w'=>(i<=l.length/\orI (l.drop i)=orI l)/\Sep w noB [] w') (λi _=>l.length-i) 0 tR ⟨⟨zaq _,rfl⟩,H⟩ (λi τ _ hI=>?_);obtain⟨⟨hi,fU⟩,k⟩:=hI
 try simp only[cK,like,aS,bK]
 refine Za1 ?_;refine Qn (dW (Cp rfl (λS=>?_) (λS=>?_)))
 .have bH:i<l.length:=oM
  obtain⟨y,hy⟩:=get_some bH
  have hdr:l.drop i=y::l.drop (i+1):=by
   rw[zbn bH];rw[zaa bH]at hy;injection hy with hy;rw[hy]
  rw[hdr]at fU;refine Za6 ?_;refine Qn (Cp rfl (λS=>?_) (λS=>?_))
  .have fu:orI l=y:=by rw[<-fU];unfold orI;rw[zcf,zbj S];rfl
   refine Zb2 ?_;exact⟨by rw[fu];rfl,k.kept⟩
  have YC:orI (l.drop (i+1))=orI l:=by rw[<-fU];unfold orI;rw[zcf,zas S]
  refine Zb2 ?_;exact aj (i+1) tR ⟨⟨oM,YC⟩,k⟩ oM
 have oQ:i=l.length:=oM;rw[oQ,zfd]at fU;refine Zb2 ?_;exact⟨by rw[<-fU];rfl,k.kept⟩
theorem afu (a b:Int) (ha:fits a) (hb:fits b):aY prog 265 [I a,I b] w λv w'=>(∃c,v=.tuple #[I c,.bool (eO (a*b))]/\(eO (a*b)=true->c=a*b))/\Kept noB w w':=by
 have H:=Sep.aJ w;refine dF func265 rfl rfl rfl rfl ?_;refine Zb4 ?_;refine Vv (Gives.anr (c:=IntKind.i64.wrap (a*b)) rfl rfl rfl) (Zb4 ?_);refine aF (t:=12) rfl (λk=>?_) (λk=>?_)
 .have h0:a≠0:=oM
  refine Zb2 ?_;refine Vv (Gives.ant (c:=IntKind.i64.wrap ((IntKind.i64.wrap (a*b)).tdiv a)) rfl rfl oM rfl) (Zb3 ?_);refine aF (t:=18) rfl (λk=>?_) (λk=>?_)
  .have hA:=k
   have nI:eO (a*b)=false:=by simpa using (Bv h0 ha hb).1 (.inl hA)
   refine Zb4 ?_;exact⟨⟨0,by rw[nI];rfl,λh=>by rw[nI]at h;cases h⟩,H.kept⟩
  have hA:=k;refine Zb3 ?_;refine aF (t:=21) rfl (λk=>?_) (λk=>?_)
  .have hB:=k
   refine Za5 ?_;refine Qn (Cp rfl (λS=>?_) (λS=>?_))
   .have nI:eO (a*b)=false:=by simpa using (Bv h0 ha hb).1 (.inr ⟨hB,S⟩)
    refine Zb2 ?_;exact⟨⟨0,by rw[nI];rfl,λh=>by rw[nI]at h;cases h⟩,H.kept⟩
   have F8:eO (a*b)=true:=Classical.byContradiction λh=>by
    rcases (Bv h0 ha hb).2 h with h1 | h1
    .exact hA h1
    exact S h1.2
   refine Zb3 ?_;exact⟨⟨IntKind.i64.wrap (a*b),by rw[F8];rfl,λh=>wrap64 (zba h)⟩,H.kept⟩
  have hB:=k
  have F8:eO (a*b)=true:=Classical.byContradiction λh=>by
   rcases (Bv h0 ha hb).2 h with h1 | h1
   .exact hA h1
   exact hB h1.1
  refine Zb6 ?_;exact⟨⟨IntKind.i64.wrap (a*b),by rw[F8];rfl,λh=>wrap64 (zba h)⟩,H.kept⟩
 have h0:a=0:=oM;have F8:eO (a*b)=true:=by rw[h0,Int.zero_mul];rfl
 refine Zb4 ?_;exact⟨⟨IntKind.i64.wrap (a*b),by rw[F8];rfl,λh=>wrap64 (zba h)⟩,H.kept⟩
def Jf (k a b:Int):Int:=if k=7 then a+b else if k=8 then a-b else if k=9 then a*b else -a
theorem Pj (k a b:Int) (ha:fits a) (hb:fits b):aY prog 199 [I k,I a,I b] w λv w'=>(∃c,v=.tuple #[I c,.bool (eO (Jf k a b))]/\(eO (Jf k a b)=true->c=Jf k a b))/\Kept noB w w':=by
 have H:=Sep.aJ w;have ha':=ha;have VQ:=hb;obtain⟨ZE,ha2⟩:=ha;obtain⟨Na,hb2⟩:=hb;obtain⟨res,au⟩: ∃res,res=Jf k a b:=⟨_,rfl⟩;rw[<-au];unfold Jf at au;refine y7 func199 rfl rfl rfl rfl ?_;refine Za5 ?_;refine Qn (Cp rfl (λS=>?_) (λS=>?_))
 .rw[zac S]at au
  refine Zb2 ?_;refine Vv (Gives.afi (c:=IntKind.i64.wrap (a+b)) rfl rfl rfl) (abJ ?_);exact⟨⟨_,zbb (λb=>Value.tuple #[I _,.bool b]) (by rw[au];unfold eO;rw[zdx,beq_iff_eq,zbg,decide_eq_true_eq,IntKind.wrap_i64];omega),λh=>by have:=zba h;rw[au]at this ⊢;exact wrap64 this⟩,H.kept⟩
 rw[zab S]at au;refine Za2 ?_;refine Qn (Cp rfl (λS=>?_) (λS=>?_))
 .rw[zac S]at au
  refine Zb2 ?_;refine Vv (Gives.ajB (c:=IntKind.i64.wrap (a-b)) rfl rfl rfl) (abJ ?_);exact⟨⟨_,zbb (λb=>Value.tuple #[I _,.bool b]) (by rw[au];unfold eO;rw[zdx,beq_iff_eq,zbg,decide_eq_true_eq,IntKind.wrap_i64];omega),λh=>by have:=zba h;rw[au]at this ⊢;exact wrap64 this⟩,H.kept⟩
 rw[zab S]at au;refine Za2 ?_;refine Qn (Cp rfl (λS=>?_) (λS=>?_))
 .rw[zac S]at au
  refine Zb2 ?_;refine aK (afu a b ha' VQ) rfl rfl (λv' _ hv=>?_);obtain⟨⟨cp,rfl,hcp⟩,bZ⟩:=hv;have d:=H.keep bZ;refine Zb4 ?_;exact⟨⟨cp,by rw[au];rfl,λh=>by rw[au]at h ⊢;exact hcp h⟩,d.kept⟩
 rw[zab S]at au;refine Zb1 ?_;refine Vv (Gives.anu (c:=IntKind.i64.wrap (0-a)) rfl rfl) (Zb4 ?_);exact⟨⟨_,zbb (λb=>Value.tuple #[I (IntKind.i64.wrap (0-a)),.bool b]) (by rw[au];unfold eO;rw[zbg];omega),λh=>by have:=zba h;rw[au]at this ⊢;rw[wrap64 oM];omega⟩,H.kept⟩
end
attribute [local irreducible] iK
section
variable {w:Wd}
theorem qW (a b:ay):Rk prog 154 [agg (ah a),agg (ah b)] w (I (rE a b)):=by
 have H:=Sep.aJ w;refine dF func154 rfl rfl rfl rfl ?_;refine Sr (cB H (cs:=ah a) rfl (h:=λb0 _ k _=>?_));refine cB k (cs:=ah b) rfl (h:=λb1 _ k _=>?_);refine Za7 ?_;refine Qn (Cp rfl (λS=>?_) (λS=>?_))
 .have hn:=S
  refine Zb0 ?_;refine Ds (λc _ d=>?_);refine Zb4 ?_;refine Gp c 5 rfl rfl (λ_=>(Gives.uU rfl)) (Zb3 ?_);refine JR c 4 [(8,false),(7,true),(6,false),(5,true)] d (ahy a.n b.n) (h:=λ_ d=>⟨sL,?_⟩);refine JR c 9 _ d (jQ (Tryz.strings_Compare ⟨a.s.toArray⟩ ⟨b.s.toArray⟩ _)) (h:=λ_ d=>⟨sT,?_⟩);refine Gz c 10 _ d ([BL a.n b.n,compareBytes a.s b.s].flatMap intCells) (h:=λbs _ d=>⟨sT,?_⟩);have Ak:aQ _ (.slice (some ⟨bs,0,none⟩) 2 2) intCells 1 [BL a.n b.n,compareBytes a.s b.s]:=⟨some ⟨bs,0,none⟩,2,rfl,⟨sM,oM⟩,Sep.nA d At0 rfl⟩;refine gI c 11 _ d (ajG Ak) (h:=λ_ d _=>⟨sT,?_⟩);refine Zb1 ?_;exact⟨by rw[<-ajF a b hn];rfl,d.kept⟩
 have hn:=S;refine Za3 ?_;refine Qn (Cd rfl (λd=>?_) (λd=>?_))
 .have hna:=d
  refine Zb1 ?_;exact⟨by unfold rE;rw[zab hn,zac hna];rfl,k.kept⟩
 have hna:=d;refine Zb1 ?_;exact⟨by unfold rE;rw[zab hn,zab (by rw[hna];simp)];rfl,k.kept⟩
theorem xD {b:Nat} {E:Td} {l:List ay} {vl:Value} (c:ay) (hb:w.heap[b]? =some (.cells #[vl] E (0,0))) (hl:aQ w vl ah 3 l):Rk prog 263 [agg (ah c),.pointer (some ⟨b,0,none⟩)] w (.bool (l.any λy=>decide (c=y))):=by
 have H:=Sep.aJ w;refine dF func263 rfl rfl rfl rfl ?_;refine Sr (cB H (cs:=ah c) rfl (h:=λb0 _ k _=>?_));refine Zb1 ?_;refine fq (cs:=[vl]) (k.kept.get hb id) (h:=?_);refine Zb1 ?_;refine aD k (Vn c (hl.keep k.kept)) (h:=λ_ k _=>?_);refine Zb1 ?_;exact⟨rfl,k.kept⟩
theorem Et {k:Int} {l:List ay} {a b:ay} (hs:Ad k l a b) (c:ay):(l.any λy=>decide (c=y))=decide (a=c\/b=c):=by
 rw[hs.any];rw[zdx,Bool.or_eq_true,decide_eq_true_eq,decide_eq_true_eq,decide_eq_true_eq];exact⟨λh=>h.imp Eq.symm Eq.symm,λh=>h.imp Eq.symm Eq.symm⟩
theorem FY {k:Int} {l:List ay} {a b:ay} {vl:Value} (hl:aQ w vl ah 3 l) (hs:Ad k l a b):Rk prog 197 [I k,vl] w (agg (ah (tV k a b))):=by
 have Jj:=hl;obtain⟨A,m,rfl,⟨hm,qX⟩,hA⟩:=hl;have H:=Sep.aJ w;obtain⟨hga,_,Ru⟩:=hs.get;obtain⟨res,au⟩: ∃res,res=tV k a b:=⟨_,rfl⟩;rw[<-au];unfold tV at au;refine zR func197 rfl rfl rfl rfl ?_;refine Sr (cB H (cs:=[.slice A l.length m]) rfl (h:=λb0 _ S _=>?_));refine aO S (h:=λb1 _ S _=>?_);refine Zb5 ?_;refine aF (t:=10) rfl (λc=>?_) (λc=>?_)
 .have akm:k=13:=c
  refine Zb1 ?_;refine aD S (dH _) (h:=λ_ d _=>?_);refine On ?_;have Ew:=d.obj At1;refine dP (fs:=[]) (cs:=[.pointer (some ⟨b0,0,none⟩)]) (vals:=[_]) rfl (xD (iK false) Ew (Jj.keep d.kept)) rfl rfl (λv' _ hv=>?_);obtain⟨rfl,bZ⟩:=hv;have e:=d.keep bZ;rw[Et hs];refine Za2 ?_;refine Qn (Cp rfl (λd=>?_) (λd=>?_))
  .rw[zac ⟨akm,d⟩]at au
   refine Sk (rT (zbb Value.bool (zbj d)) ?_);refine Zb2 ?_;refine aD e (dH _) (h:=λ_ f _=>?_);refine ak f (h:=λ_ f=>?_);refine Qn (Rb (aN (h:=?_)));exact⟨_,jh f,by rw[au,show decide (k=14)=false from zas oM];rfl,f.kept⟩
  rw[zab (λh=>d h.2),zab (λh=>oM)]at au;refine Zb3 ?_;refine aF (t:=17) rfl (λf=>?_) (λf=>?_)
  .exact zap f oM
  refine Zb3 ?_;refine Vb (ah bU) ?_;have Ew:=e.obj At1;refine dP (fs:=[]) (cs:=[.pointer (some ⟨b0,0,none⟩)]) (vals:=[_]) rfl (xD bU Ew (Jj.keep e.kept)) rfl rfl (λv' _ hv=>?_);obtain⟨rfl,bZ⟩:=hv;have f:=e.keep bZ;rw[Et hs];refine Am ?_;refine Qn (Cp rfl (λe=>?_) (λe=>?_))
  .rw[zac e]at au
   refine Sr (Vb (ah bU) ?_);refine ak f (h:=λ_ d=>?_);refine Qn (Rb (aN (h:=?_)));exact⟨_,jh d,by rw[au];rfl,d.kept⟩
  rw[zab e]at au;refine Za3 ?_;refine Qn (Cp rfl (λd=>?_) (λd=>?_))
  .rw[zac d]at au
   refine Zb0 ?_;refine Ds (λe _ g=>?_);refine Zb3 ?_;refine gI e 3 [(2,false),(1,true),(0,false)] g (dH _) (h:=λ_ g _=>⟨(dw rfl kR (Gives.iL (i:=0) rfl g hA hga) rfl (aC (iX g (h:=eZ)))),?_⟩);refine Gp e 4 rfl rfl (λ_=>(Gives.ahk (enc:=ah) _ _ rfl rfl)) (gI e 5 _ g (dH _) (h:=λ_ g _=>⟨sT,?_⟩));refine dZ e 6 _ g (h:=λ_ g=>⟨sT,?_⟩);refine fF e kR ?_;refine bC (Rb (aN (h:=?_)));exact⟨_,jh g,by rw[au];rfl,g.kept⟩
  rw[zab d]at au;refine Zb2 ?_;refine aD f (dH _) (h:=λ_ g _=>?_);refine ak g (h:=λ_ g=>?_);refine Qn (dX (aN (h:=?_)));exact⟨_,jh g,by rw[au];rfl,g.kept⟩
 have akm: ¬k=13:=c;rw[zab (λh=>akm h.1)]at au;refine Zb5 ?_;refine aF (t:=17) rfl (λg=>?_) (λg=>?_)
 .have akn:k=14:=g
  refine Zb1 ?_;refine aD S (dH _) (h:=λ_ c _=>?_);refine On ?_;have Ew:=c.obj At1;refine dP (fs:=[]) (cs:=[.pointer (some ⟨b0,0,none⟩)]) (vals:=[_]) rfl (xD (iK true) Ew (Jj.keep c.kept)) rfl rfl (λv' _ hv=>?_);obtain⟨rfl,bZ⟩:=hv;have e:=c.keep bZ;rw[Et hs];refine Za2 ?_;refine Qn (Cp rfl (λc=>?_) (λc=>?_))
  .rw[zac ⟨akn,c⟩]at au
   refine Zb2 ?_;refine aD e (dH _) (h:=λ_ d _=>?_);refine ak d (h:=λ_ d=>?_);refine Qn (Rb (aN (h:=?_)));exact⟨_,jh d,by rw[au,show decide (k=14)=true from zbj oM];rfl,d.kept⟩
  rw[zab (λh=>c h.2)]at au;refine Zb1 ?_;refine Vb (ah bU) ?_;have Ew:=e.obj At1;refine dP (fs:=[]) (cs:=[.pointer (some ⟨b0,0,none⟩)]) (vals:=[_]) rfl (xD bU Ew (Jj.keep e.kept)) rfl rfl (λv' _ hv=>?_);obtain⟨rfl,bZ⟩:=hv;have d:=e.keep bZ;rw[Et hs];refine Am ?_;refine Qn (Cp rfl (λe=>?_) (λe=>?_))
  .rw[zac e]at au
   refine Sr (Vb (ah bU) ?_);refine ak d (h:=λ_ c=>?_);refine Qn (Rb (aN (h:=?_)));exact⟨_,jh c,by rw[au];rfl,c.kept⟩
  rw[zab e]at au;refine Za3 ?_;refine Qn (Cp rfl (λc=>?_) (λc=>?_))
  .rw[zac c]at au
   refine Zb0 ?_;refine Ds (λe _ f=>?_);refine Zb3 ?_;refine gI e 3 [(2,false),(1,true),(0,false)] f (dH _) (h:=λ_ f _=>⟨(dw rfl kR (Gives.iL (i:=0) rfl f hA hga) rfl (aC (iX f (h:=eZ)))),?_⟩);refine Gp e 4 rfl rfl (λ_=>(Gives.ahk (enc:=ah) _ _ rfl rfl)) (gI e 5 _ f (dH _) (h:=λ_ f _=>⟨sT,?_⟩));refine dZ e 6 _ f (h:=λ_ f=>⟨sT,?_⟩);refine fF e kR ?_;refine bC (Rb (aN (h:=?_)));exact⟨_,jh f,by rw[au];rfl,f.kept⟩
  rw[zab c]at au;refine Zb2 ?_;refine aD d (dH _) (h:=λ_ f _=>?_);refine ak f (h:=λ_ f=>?_);refine Qn (dX (aN (h:=?_)));exact⟨_,jh f,by rw[au];rfl,f.kept⟩
 have akn: ¬k=14:=g;rw[zab (λh=>akn h.1)]at au;refine Zb3 ?_;refine Vb (ah bU) ?_;have Ew:=S.obj At1;refine dP (fs:=[]) (cs:=[.pointer (some ⟨b0,0,none⟩)]) (vals:=[_]) rfl (xD bU Ew (Jj.keep S.kept)) rfl rfl (λv' _ hv=>?_);obtain⟨rfl,bZ⟩:=hv;have f:=S.keep bZ;rw[Et hs];refine Am ?_;refine Qn (Cp rfl (λS=>?_) (λS=>?_))
 .rw[zac S]at au
  refine Sr (Vb (ah bU) ?_);refine ak f (h:=λ_ g=>?_);refine Qn (Rb (aN (h:=?_)));exact⟨_,jh g,by rw[au];rfl,g.kept⟩
 rw[zab S]at au;refine Za3 ?_;refine Qn (Cp rfl (λg=>?_) (λg=>?_))
 .rw[zac g]at au
  refine Zb0 ?_;refine Ds (λS _ e=>?_);refine Zb3 ?_;refine gI S 3 [(2,false),(1,true),(0,false)] e (dH _) (h:=λ_ e _=>⟨(dw rfl kR (Gives.iL (i:=0) rfl e hA hga) rfl (aC (iX e (h:=eZ)))),?_⟩);refine Gp S 4 rfl rfl (λ_=>(Gives.ahk (enc:=ah) _ _ rfl rfl)) (gI S 5 _ e (dH _) (h:=λ_ e _=>⟨sT,?_⟩));refine dZ S 6 _ e (h:=λ_ e=>⟨sT,?_⟩);refine fF S kR ?_;refine bC (Rb (aN (h:=?_)));exact⟨_,jh e,by rw[au];rfl,e.kept⟩
 rw[zab g]at au;refine Zb2 ?_;refine aD f (dH _) (h:=λ_ e _=>?_);refine ak e (h:=λ_ e=>?_);refine Qn (dX (aN (h:=?_)));exact⟨_,jh e,by rw[au];rfl,e.kept⟩
end
end Go.Proofs.YtkfpleidaoaonaaGreatDoor
