/-
 What a step makes of cells,walked.
-/
import Derived.Test.YtkfpleidaoaonaaGreatDoorNw1
import Derived.Test.YtkfpleidaoaonaaGreatDoorNw3
import Derived.Test.YtkfpleidaoaonaaGreatDoorNw8
import Derived.Test.YtkfpleidaoaonaaGreatDoorNw7
import Derived.Lib.RowBridge
import Derived.Lib.Builder
import Derived.Lib.UnsafeStr
set_option linter.unusedVariables false
set_option linter.unusedSimpArgs false
namespace Go.Proofs.YtkfpleidaoaonaaGreatDoor
open Go Go.Mw Go.Lib
set_option maxRecDepth 4000
attribute [local irreducible] FW FL FG FGn fZ gG cO gW Qfn Gives
attribute [local irreducible] iK rE tV
theorem acg {k:Int} {a b:ay} (h7:7<=k) (h18:k<=18) (h1: ¬(k=13\/k=14\/k=15)) (h2: ¬k=16) (h3: ¬k=17) (h4: ¬(a.null=true\/b.null=true)) (h5: ¬k=11) (h6: ¬k=12) (h8: ¬k=18):iZ k a b=BK (Jf k a.n b.n):=by
 unfold iZ BK Jf;rw[zab h1,zab h2,zab h3,zab h4,zab h5,zab h6,zab h8]
theorem m39 {p:Prop} (h:p:=by
 rw[au]
 first
 | (rw[zac oM];refine zbb (λx=>some (iK x)) ?_;first | exact zbj oM | exact zas oM | exact zbg.2 oM)
 | (rw[zab oM,zac oM];refine zbb (λx=>some (iK x)) ?_;first | exact zbj oM | exact zas oM | exact zbg.2 oM)):p:=h
section
variable {w:Wd}
theorem afv {k:Int} {l:List ay} {a b:ay} {vl:Value} (hl:aQ w vl ah 3 l) (hs:Ad k l a b) (h7:7<=k) (h18:k<=18) (ha:fits a.n) (hb:fits b.n):aY Tryz.prog 139 [I k,vl] w λv w'=>(∃c,v=.tuple #[agg (ah c),.bool (iZ k a b).isSome]/\∀y,iZ k a b=some y->c=y)/\Kept noB w w':=by
 have Jj:=hl;obtain⟨A,m,rfl,⟨hm,qX⟩,hA⟩:=hl;have H:=Sep.aJ w;obtain⟨hga,hgb,Ru⟩:=hs.get;have hl2:l.length<=2:=by rcases hs with⟨rfl,_⟩ | ⟨rfl,_⟩<;>simp
 obtain⟨res,VL⟩: ∃res,res=iZ k a b:=⟨_,rfl⟩;rw[<-VL];have au:=VL;unfold iZ at au;refine zR Tryz.func139 rfl rfl rfl rfl ?_;refine Sr (aO H (h:=λb4 _ _ _=>?_));refine Am ?_;refine Qn (fB (λz:Nat×Nat=>[(0,I k),(1,.slice A l.length m),(4,.pointer (some ⟨b4,0,none⟩)),(6,.pointer (some ⟨z.1,0,none⟩)),(7,.pointer (some ⟨z.2,0,none⟩))]) (λz w'=>Sep w noB [blk z.2 (ah b) 52,blk z.1 (ah a) 52,blk b4 (ah cell0) 52] w') ?_ ?_)
 .refine Ds (λS _ d=>?_)
  refine Zb1 ?_;refine Gp S 1 rfl rfl (λ_=>(Gives.jJ (i:=0) rfl rfl hA Ru)) (GS (Gt rfl (Gives.iL (i:=0) rfl d hA hga) ?_));refine Zb3 ?_;refine Gc S 6 ((l.length-1:Nat):Int) ?_;refine Zb1 ?_;refine GS (Gt rfl (Gives.iL (i:=l.length-1) rfl d hA hgb) ?_);refine mI S (e1:=9) (e2:=10) kR ?_ ?_
  .refine oN S 9 [(8,false),(7,true),(6,true),(5,true),(4,true),(3,true),(2,false),(1,true),(0,true)] d (h:=λb6 _ e=>⟨(dw rfl kR (Gives.iL (i:=l.length-1) rfl e hA hgb) rfl (aC (aC (aC (aC (aC ((dw rfl kR (Gives.iL (i:=0) rfl e hA hga) rfl (aC (aC (eZ))))))))))),?_⟩)
   refine Er S 10 [(8,false),(7,true),(6,true),(5,true),(4,true),(3,true),(2,false),(1,true),(0,true)] e (h:=λb7 _ e=>⟨(dw rfl kR (Gives.iL (i:=l.length-1) rfl e hA hgb) rfl (aC (aC (aC (aC (aC ((dw rfl kR (Gives.iL (i:=0) rfl e hA hga) rfl (aC (aC (eZ))))))))))),?_⟩);refine dZ S 11 [(8,false),(7,true),(6,true),(5,true),(4,true),(3,true)] e (h:=λ_ e=>⟨(dw rfl kR (Gives.iL (i:=l.length-1) rfl e hA hgb) rfl (aC (aC (aC (aC (aC (eZ))))))),?_⟩);refine dZ S 12 _ e (h:=λ_ e=>⟨sT,?_⟩);refine Zb0 ?_;exact aA (b6,b7) tR e
  refine oN S 10 [(8,false),(7,true),(6,true),(5,true),(4,true),(3,true),(2,false),(1,true),(0,true)] d (h:=λb7 _ e=>⟨(dw rfl kR (Gives.iL (i:=l.length-1) rfl e hA hgb) rfl (aC (aC (aC (aC (aC ((dw rfl kR (Gives.iL (i:=0) rfl e hA hga) rfl (aC (aC (eZ))))))))))),?_⟩);refine Er S 9 [(8,false),(7,true),(6,true),(5,true),(4,true),(3,true),(2,false),(1,true),(0,true)] e (h:=λb6 _ e=>⟨(dw rfl kR (Gives.iL (i:=l.length-1) rfl e hA hgb) rfl (aC (aC (aC (aC (aC ((dw rfl kR (Gives.iL (i:=0) rfl e hA hga) rfl (aC (aC (eZ))))))))))),?_⟩);refine dZ S 11 [(8,false),(7,true),(6,true),(5,true),(4,true),(3,true)] e (h:=λ_ e=>⟨(dw rfl kR (Gives.iL (i:=l.length-1) rfl e hA hgb) rfl (aC (aC (aC (aC (aC (eZ))))))),?_⟩);refine dZ S 12 _ e (h:=λ_ e=>⟨sT,?_⟩);refine Zb0 ?_;exact aA (b6,b7) tR e.aL
 rintro⟨b6,b7⟩ τ e e;dsimp only at e;simp only[cK,like,aS,bK];refine Zb3 ?_;refine aF (t:=23) rfl (λS=>?_) (λS=>?_)
 .refine Zb6 ?_
  refine aD e (FY (Jj.keep e.kept) hs) (h:=λ_ S _=>?_);refine ak S (h:=λ_ S=>?_);refine Am ?_;refine Qn (Rb (aN (h:=?_)));exact⟨_,gK S,iY (by rw[au,zac oM]),S.kept⟩
 refine Zb4 ?_;refine aF (t:=27) rfl (λS=>?_) (λS=>?_)
 .refine Zb4 ?_
  refine aD e (FY (Jj.keep e.kept) hs) (h:=λ_ S _=>?_);refine ak S (h:=λ_ S=>?_);refine Am ?_;refine Qn (Rb (aN (h:=?_)));exact⟨_,gK S,iY (by rw[au,zac oM]),S.kept⟩
 refine Za4 ?_;refine Qn (Cp rfl (λS=>?_) (λS=>?_))
 .refine Zb2 ?_
  refine aD e (FY (Jj.keep e.kept) hs) (h:=λ_ S _=>?_);refine ak S (h:=λ_ S=>?_);refine Am ?_;refine Qn (Rb (aN (h:=?_)));exact⟨_,gK S,iY (by rw[au,zac oM]),S.kept⟩
 refine Za3 ?_;refine Qn (Cp rfl (λS=>?_) (λS=>?_))
 .refine Zb2 ?_
  refine aD e (dH _) (h:=λ_ S _=>?_);refine ak S (h:=λ_ S=>?_);refine Am ?_;refine Qn (Rb (aN (h:=?_)));exact⟨_,gK S,iY (by rw[au,zab oM,zac oM]),S.kept⟩
 refine Zb3 ?_;refine aF (t:=43) rfl (λS=>?_) (λS=>?_)
 .refine Za4 ?_
  refine Qn (Cd rfl (λS=>?_) (λS=>?_))
  .have hnl:=S
   refine Zb1 ?_;refine ak e (h:=λ_ d=>?_);refine Am ?_;refine Qn (Rb (aN (h:=?_)));exact⟨_,gK d,iY (by rw[au,zab oM,zab oM,zac oM,zac hnl]),d.kept⟩
  have hnl:=S;refine Za3 ?_;refine Qn (Cp rfl (λd=>?_) (λd=>?_))
  .refine Zb1 ?_
   refine ak e (h:=λ_ d=>?_);refine Am ?_;refine Qn (Rb (aN (h:=?_)));exact⟨_,gK d,iY (by rw[au,zab oM,zab oM,zac oM,zab (by simp[hnl])]),d.kept⟩
  refine Zb3 ?_;refine gu (t:=55) rfl (λd=>?_) (λd=>?_)
  .refine Zb2 ?_
   refine Vb (ah bU) ?_;refine ak e (h:=λ_ _=>?_);refine Am ?_;refine Qn (Rb (aN (h:=?_)))
   (exfalso;omega)
  refine Za4 ?_;refine Qn (Cd rfl (λd=>?_) (λd=>?_))
  .refine Sr (Vb (ah bU) ?_)
   refine ak e (h:=λ_ _=>?_);refine Am ?_;refine Qn (Rb (aN (h:=?_)))
   (exfalso;omega)
  have hnn: ¬(a.null=true\/b.null=true):=by simp[*]
  rw[zab oM,zab oM,zab oM,zab hnn]at au;refine Zb3 ?_;refine aF (t:=63) rfl (λd=>?_) (λd=>?_)
  .refine Zb4 ?_
   refine aD e (qW a b) (h:=λ_ d _=>?_);refine Zb4 ?_;refine aF (t:=72) rfl (λS=>?_) (λS=>?_)
   .refine Zb4 ?_
    refine aF (t:=76) rfl (λS=>?_) (λS=>?_)
    .refine Zb1 ?_
     refine aD d (dH _) (h:=λ_ S _=>?_);refine ak S (h:=λ_ _=>?_);refine Am ?_;refine Qn (Rb (aN (h:=?_)))
     (exfalso;omega)
    refine Zb3 ?_;refine aF (t:=79) rfl (λS=>?_) (λS=>?_)
    .refine Zb4 ?_
     refine aD d (dH _) (h:=λ_ S _=>?_);refine ak S (h:=λ_ _=>?_);refine Am ?_;refine Qn (Rb (aN (h:=?_)))
     (exfalso;omega)
    refine Zb2 ?_;refine aD d (dH _) (h:=λ_ S _=>?_);refine ak S (h:=λ_ _=>?_);refine Am ?_;refine Qn (Rb (aN (h:=?_)))
    (exfalso;omega)
   refine Zb5 ?_;refine aF (t:=79) rfl (λS=>?_) (λS=>?_)
   .refine Zb4 ?_
    refine aD d (dH _) (h:=λ_ S _=>?_);refine ak S (h:=λ_ _=>?_);refine Am ?_;refine Qn (Rb (aN (h:=?_)))
    (exfalso;omega)
   refine Zb2 ?_;refine aD d (dH _) (h:=λ_ d _=>?_);refine ak d (h:=λ_ _=>?_);refine Am ?_;refine Qn (Rb (aN (h:=?_)))
   (exfalso;omega)
  refine Za4 ?_;refine Qn (Cp rfl (λd=>?_) (λd=>?_))
  .refine Zb2 ?_
   refine aD e (qW a b) (h:=λ_ d _=>?_);refine Zb4 ?_;refine aF (t:=72) rfl (λS=>?_) (λS=>?_)
   .refine Zb4 ?_
    refine aF (t:=76) rfl (λS=>?_) (λS=>?_)
    .refine Zb1 ?_
     refine aD d (dH _) (h:=λ_ S _=>?_);refine ak S (h:=λ_ _=>?_);refine Am ?_;refine Qn (Rb (aN (h:=?_)))
     (exfalso;omega)
    refine Zb3 ?_;refine aF (t:=79) rfl (λS=>?_) (λS=>?_)
    .refine Zb4 ?_
     refine aD d (dH _) (h:=λ_ S _=>?_);refine ak S (h:=λ_ _=>?_);refine Am ?_;refine Qn (Rb (aN (h:=?_)))
     (exfalso;omega)
    refine Zb2 ?_;refine aD d (dH _) (h:=λ_ S _=>?_);refine ak S (h:=λ_ _=>?_);refine Am ?_;refine Qn (Rb (aN (h:=?_)))
    (exfalso;omega)
   refine Zb5 ?_;refine aF (t:=79) rfl (λS=>?_) (λS=>?_)
   .refine Zb4 ?_
    refine aD d (dH _) (h:=λ_ S _=>?_);refine ak S (h:=λ_ _=>?_);refine Am ?_;refine Qn (Rb (aN (h:=?_)))
    (exfalso;omega)
   refine Zb2 ?_;refine aD d (dH _) (h:=λ_ d _=>?_);refine ak d (h:=λ_ _=>?_);refine Am ?_;refine Qn (Rb (aN (h:=?_)))
   (exfalso;omega)
  refine Za3 ?_;refine Qn (Cp rfl (λd=>?_) (λd=>?_))
  .refine Zb3 ?_
   refine Vb (ah ⟨false,(a.s.length:Int),[]⟩) ?_;refine ak e (h:=λ_ _=>?_);refine Am ?_;refine Qn (Rb (aN (h:=?_)))
   (exfalso;omega)
  refine Zb5 ?_;refine aK (Pj k a.n b.n ha hb) rfl rfl (λv' _ hv=>?_);obtain⟨⟨cp,rfl,hcp⟩,bZ⟩:=hv;have d:=e.keep bZ;refine Zb6 ?_;refine Vb (ah ⟨false,cp,[]⟩) ?_;refine Mv ?_;refine ak d (h:=λ_ _=>?_);refine Am ?_;refine Qn (dX (aN (h:=?_)))
  (exfalso;omega)
 refine Za5 ?_;refine Qn (Cp rfl (λd=>?_) (λd=>?_))
 .refine Zb1 ?_
  refine ak e (h:=λ_ _=>?_);refine Am ?_;refine Qn (Rb (aN (h:=?_)))
  (exfalso;omega)
 refine Zb3 ?_;refine gu (t:=55) rfl (λd=>?_) (λd=>?_)
 .refine Zb2 ?_
  refine Vb (ah bU) ?_;refine ak e (h:=λ_ d=>?_);refine Am ?_;refine Qn (Rb (aN (h:=?_)));exact⟨_,gK d,iY (by rw[au,zab oM,zab oM,zab oM,zac (by simp[*])]),d.kept⟩
 refine Za4 ?_;refine Qn (Cd rfl (λd=>?_) (λd=>?_))
 .refine Sr (Vb (ah bU) ?_)
  refine ak e (h:=λ_ d=>?_);refine Am ?_;refine Qn (Rb (aN (h:=?_)));exact⟨_,gK d,iY (by rw[au,zab oM,zab oM,zab oM,zac (by simp[*])]),d.kept⟩
 have hnn: ¬(a.null=true\/b.null=true):=by simp[*]
 rw[zab oM,zab oM,zab oM,zab hnn]at au;refine Zb3 ?_;refine aF (t:=63) rfl (λd=>?_) (λd=>?_)
 .refine Zb4 ?_
  refine aD e (qW a b) (h:=λ_ d _=>?_);refine Zb4 ?_;refine aF (t:=72) rfl (λS=>?_) (λS=>?_)
  .refine Zb4 ?_
   refine aF (t:=76) rfl (λS=>?_) (λS=>?_)
   .refine Zb1 ?_
    refine aD d (dH _) (h:=λ_ S _=>?_);refine ak S (h:=λ_ S=>?_);refine Am ?_;refine Qn (Rb (aN (h:=?_)));exact⟨_,gK S,iY m39,S.kept⟩
   refine Zb3 ?_;refine aF (t:=79) rfl (λS=>?_) (λS=>?_)
   .refine Zb4 ?_
    refine aD d (dH _) (h:=λ_ S _=>?_);refine ak S (h:=λ_ _=>?_);refine Am ?_;refine Qn (Rb (aN (h:=?_)))
    (exfalso;omega)
   refine Zb2 ?_;refine aD d (dH _) (h:=λ_ S _=>?_);refine ak S (h:=λ_ _=>?_);refine Am ?_;refine Qn (Rb (aN (h:=?_)))
   (exfalso;omega)
  refine Zb5 ?_;refine aF (t:=79) rfl (λS=>?_) (λS=>?_)
  .refine Zb4 ?_
   refine aD d (dH _) (h:=λ_ S _=>?_);refine ak S (h:=λ_ S=>?_);refine Am ?_;refine Qn (Rb (aN (h:=?_)));exact⟨_,gK S,iY m39,S.kept⟩
  refine Zb2 ?_;refine aD d (dH _) (h:=λ_ S _=>?_);refine ak S (h:=λ_ S=>?_);refine Am ?_;refine Qn (Rb (aN (h:=?_)));exact⟨_,gK S,iY m39,S.kept⟩
 refine Za4 ?_;refine Qn (Cp rfl (λS=>?_) (λS=>?_))
 .refine Zb2 ?_
  refine aD e (qW a b) (h:=λ_ S _=>?_);refine Zb4 ?_;refine aF (t:=72) rfl (λd=>?_) (λd=>?_)
  .refine Zb4 ?_
   refine aF (t:=76) rfl (λd=>?_) (λd=>?_)
   .refine Zb1 ?_
    refine aD S (dH _) (h:=λ_ d _=>?_);refine ak d (h:=λ_ _=>?_);refine Am ?_;refine Qn (Rb (aN (h:=?_)))
    (exfalso;omega)
   refine Zb3 ?_;refine aF (t:=79) rfl (λd=>?_) (λd=>?_)
   .refine Zb4 ?_
    refine aD S (dH _) (h:=λ_ d _=>?_);refine ak d (h:=λ_ _=>?_);refine Am ?_;refine Qn (Rb (aN (h:=?_)))
    (exfalso;omega)
   refine Zb2 ?_;refine aD S (dH _) (h:=λ_ d _=>?_);refine ak d (h:=λ_ d=>?_);refine Am ?_;refine Qn (Rb (aN (h:=?_)));exact⟨_,gK d,iY m39,d.kept⟩
  refine Zb5 ?_;refine aF (t:=79) rfl (λd=>?_) (λd=>?_)
  .refine Zb4 ?_
   refine aD S (dH _) (h:=λ_ d _=>?_);refine ak d (h:=λ_ d=>?_);refine Am ?_;refine Qn (Rb (aN (h:=?_)));exact⟨_,gK d,iY m39,d.kept⟩
  refine Zb2 ?_;refine aD S (dH _) (h:=λ_ d _=>?_);refine ak d (h:=λ_ d=>?_);refine Am ?_;refine Qn (Rb (aN (h:=?_)));exact⟨_,gK d,iY m39,d.kept⟩
 refine Za3 ?_;refine Qn (Cp rfl (λd=>?_) (λd=>?_))
 .refine Zb3 ?_
  refine Vb (ah ⟨false,(a.s.length:Int),[]⟩) ?_;refine ak e (h:=λ_ d=>?_);refine Am ?_;refine Qn (Rb (aN (h:=?_)));exact⟨_,gK d,iY (by rw[au,zab oM,zab oM,zac oM]),d.kept⟩
 refine Zb5 ?_;refine aK (Pj k a.n b.n ha hb) rfl rfl (λv' _ hv=>?_);obtain⟨⟨cp,rfl,hcp⟩,bZ⟩:=hv;have d:=e.keep bZ;refine Zb6 ?_;refine Vb (ah ⟨false,cp,[]⟩) ?_;refine Mv ?_;refine ak d (h:=λ_ d=>?_);refine Am ?_;refine Qn (dX (aN (h:=?_)));exact⟨_,gK d,ab1 (n:=Jf k a.n b.n) (by rw[VL];exact acg h7 h18 oM oM oM hnn oM oM oM) rfl hcp,d.kept⟩
end
end Go.Proofs.YtkfpleidaoaonaaGreatDoor
namespace Go.Proofs.YtkfpleidaoaonaaGreatDoor
open Go Go.Lib Go.Mw
set_option maxRecDepth 4000
def jI (r:List ay):Prop:=∀c∈r,fits c.n
theorem afw {cols:List bF} {r:List ay} (h:dY cols r=0):cols.length=r.length/\∀(i:Nat) a c,cols[i]? =some a->r[i]? =some c->okC a.type c:=by
  have hl:cols.length=r.length:=by
    refine Classical.byContradiction λhn=>?_;unfold dY at h;rw[zac hn]at h;cases h
  refine⟨hl,λi a c ha hc=>?_⟩
  have key: ∀j,rH cols r j=0->∀i,j<=i->rH cols r i=0:=by
    intro j hj i hi
    induction i with
    | zero=>
     have :j=0:=oM;subst this;exact hj
    | succ i ih=>
      by_cases hji:j=i+1
      . rw[<-hji];exact hj
      have h0:=ih oM
      rcases zdr i r.length with bH | hge
      . obtain⟨c,hc⟩:=get_some bH
        obtain⟨a,ha⟩:=get_some (l:=cols) (i:=i) oM;rw[zX ha hc]at h0
        split at h0
        . rename_i h1;exact zap h0 h1
        exact h0
      exact LQ oM
  have h0:=key 0 (by rw[<-Jc hl];exact h) i (zaq _);rw[zX ha hc]at h0
  split at h0
  . rename_i h1;exact zap h0 h1
  rename_i h1;exact Classical.byContradiction λhn=>h1 hn
def yP (cols:List bF) (r:List ay) (x:aZ):ay:=if x.kind=1 then r.getD ((lC cols x.n).getD 0) cell0 else if x.kind=6 then bU else⟨false,x.n,x.s⟩
theorem Yn {cols:List bF} {r:List ay} {x:aZ} {t:bN} (hr:dY cols r=0) (hf:jI r) (hx:fits x.n) (hm:iE x=true) (hk:x.kind<7) (ht:je cols x=some t):okC t (yP cols r x)/\fits (yP cols r x).n:=by
 obtain⟨hl,eH⟩:=afw hr
 have bZ:1<=x.kind:=by
  unfold iE at hm
  repeat' split at hm
  all_goals first | omega | (have:=zba hm;omega)
 unfold yP;unfold je at ht;unfold iE at hm
 by_cases h1:x.kind=1
 .rw[zac h1]at ht |-
  cases Dr:lC cols x.n with
  | none=>rw[Dr]at ht;cases ht
  | some i=>
   rw[Dr]at ht;have bH:=Rh Dr;obtain⟨a,ha⟩:=get_some bH;obtain⟨c,hc⟩:=get_some (l:=r) (i:=i) oM;have hgd:cols.getD i ⟨0,[],jF,cell0⟩=a:=mO ha;simp only[zdf,hgd]at ht ⊢;rw[mO hc];have hac:=eH i a c ha hc;have hfx:fits c.n:=hf c (zam hc)
   split at ht
   .cases ht
   injection ht with ht
   subst ht
   split
   .rename_i h2
    refine⟨?_,hfx⟩
    rcases (lq.1 hac).2 with⟨b1,b2,b3⟩ | ⟨b1,b2⟩
    .rw[b2,b3];exact xw dC
    rw[h2]at b2;unfold isC at b2;rw[zab dC,zac rfl]at b2;have b3:=zba b2;exact lq.2 ⟨yI (show(1:Int)<=3/\(3:Int)<=5 from dC),.inr ⟨b1,by simp[isC,b3.1]⟩⟩
   exact⟨hac,hfx⟩
 rw[zab h1]at ht hm |-
 by_cases h2:x.kind=2
 .rw[zac h2]at ht hm
  rw[zab oM];injection ht with ht
  subst ht;have hs:x.s=[]:=zba hm;rw[hs];exact⟨Ri _ _,hx⟩
 rw[zab h2]at ht hm
 by_cases h3:x.kind=3
 .rw[zac h3]at ht hm
  rw[zab oM];injection ht with ht
  subst ht;have hs:=zba hm;exact⟨lq.2 ⟨yI (show(1:Int)<=1/\(1:Int)<=5 from dC),.inr ⟨rfl,by simp[isC];exact hs⟩⟩,hx⟩
 rw[zab h3]at ht hm
 by_cases h4:x.kind=4
 .rw[zac h4]at ht hm
  rw[zab oM];injection ht with ht
  subst ht;have hs:=zba hm;exact⟨lq.2 ⟨yI (show(1:Int)<=4/\(4:Int)<=5 from dC),.inr ⟨rfl,by simp[isC];exact hs⟩⟩,hx⟩
 rw[zab h4]at ht hm
 by_cases h5:x.kind=5
 .rw[zac h5]at ht hm
  rw[zab oM];injection ht with ht
  subst ht;have hs:=zba hm;exact⟨lq.2 ⟨yI (show(1:Int)<=5/\(5:Int)<=5 from dC),.inr ⟨rfl,by simp[isC];exact hs⟩⟩,hx⟩
 rw[zab h5]at ht hm;rw[zac oM]at hm;rw[zac oM];injection ht with ht
 subst ht;have hs:=zba hm;exact⟨xw oM,dC,dC⟩
def Typed (ts:List bN) (st:List ay):Prop:=ts.length=st.length/\∀(i:Nat) t c,ts[i]? =some t->st[i]? =some c->okC t c/\fits c.n
theorem Typed.push {ts:List bN} {st:List ay} (h:Typed ts st) {m:Nat} {t:bN} {c:ay} (hm:m<=st.length) (hc:okC t c/\fits c.n):Typed (ts.take m++[t]) (st.take m++[c]):=by
 obtain⟨h1,h2⟩:=h;have e1:(ts.take m).length=m:=by rw[zaj];omega
 have e2:(st.take m).length=m:=by rw[zaj];omega
 refine⟨by simp[h1],λi t' c' ht hc'=>?_⟩
 rcases zdr i m with hi | hi
 .rw[zbz oM,zck,zac hi]at ht hc'
  exact h2 i t' c' ht hc'
 rw[zbv oM,e1]at ht;rw[zbv oM,e2]at hc';cases hd:i-m with
 | zero=>
  rw[hd]at ht hc';simp at ht hc';rw[<-ht,<-hc'];exact hc
 | succ j=>rw[hd]at ht;simp at ht
theorem Typed.nil:Typed [] []:=⟨rfl,λi t c h=>by simp at h⟩
theorem ajH {x:aZ} (h:iE x=true):1<=x.kind/\x.kind<=18:=by
 unfold iE at h
 repeat' split at h
 all_goals first | omega | (have:=zba h;omega)
def ajI (cols:List bF) (r:List ay) (st:List ay) (x:aZ):Option ay:=
 if nT x.kind=0 then some (yP cols r x)else pE x.kind (st.getD (st.length-nT x.kind) cell0) (st.getD (st.length-1) cell0)
theorem Ag (k:Int):dz k=0↔k<7:=by
 unfold dz
 repeat' split
 all_goals omega
theorem Yo {cols:List bF} {r:List ay} {x:aZ} {ts ts':List bN} {st:List ay} (hr:dY cols r=0) (hf:jI r) (hx:fits x.n) (hT:Typed ts st) (hs:stepT cols ts x=some ts'):
    Cn cols r st x=(ajI cols r st x).map (λc=>st.take (st.length-nT x.kind)++[c])/\∀c,ajI cols r st x=some c->Typed ts' (st.take (st.length-nT x.kind)++[c])/\fits c.n:=by
  have nI:=λh=>Vg (cols:=cols) (st:=ts) (x:=x) h
  have hm:iE x=true:=by
    cases h:iE x with
    | true=>rfl
    | false=>rw[nI (.inl h)]at hs;cases hs
  have q9:nT x.kind<=ts.length:=by
    refine Classical.byContradiction λh=>?_;rw[nI (.inr oM)]at hs;cases hs
  rw[abY hm q9]at hs;obtain⟨t,ht,hts⟩:=zav.1 hs;subst hts;have hlen:=hT.1;unfold resT at ht;unfold Cn ajI;have yY:=Br hm;rw[<-yY];dsimp only
  by_cases h0:nT x.kind=0
  . rw[zac h0]at ht
    rw[zac h0,zac h0];have hl:=Yn hr hf hx hm ((Ag _).1 (by rw[<-yY];exact h0)) ht;refine⟨rfl,λc hc=>?_⟩;injection hc with hc
    subst hc;rw[hlen];exact⟨hT.push oM hl,hl.2⟩
  rw[zab h0]at ht;rw[zab h0,zab h0]
  have hk7:7<=x.kind:=by
    refine Classical.byContradiction λh=>h0 ?_;rw[yY];exact(Ag _).2 oM
  obtain⟨a,ha⟩:=get_some (l:=st) (i:=st.length-nT x.kind) oM;obtain⟨b,hb⟩:=get_some (l:=st) (i:=st.length-1) oM;obtain⟨ta,hta⟩:=get_some (l:=ts) (i:=ts.length-nT x.kind) oM;obtain⟨tb,VY⟩:=get_some (l:=ts) (i:=ts.length-1) oM;rw[mO hta,mO VY]at ht;rw[mO ha,mO hb];have oa:=hT.2 (st.length-nT x.kind) ta a (by rw[<-hlen];exact hta) ha;have ob:=hT.2 (st.length-1) tb b (by rw[<-hlen];exact VY) hb;obtain⟨e1,e2⟩:=Yh ⟨hk7,(ajH hm).2⟩ ht oa.1 ob.1 oa.2 ob.2;rw[e1];refine⟨rfl,λc hc=>?_⟩;have:=e2 c hc;rw[hlen];exact⟨hT.push oM this,this.2⟩
open Go.Proofs.Tryz
attribute [local irreducible] FW FL FG FGn fZ gG cO gW Qfn Gives
attribute [local irreducible] eF
section
variable {w:Wd}
theorem ach {b i:Nat} {E:Td} {cols:List bF} {vc:Value} {a:bF} (c:ay) (hb:w.heap[b]? =some (.cells #[vc] E (0,0))) (hc:aQ w vc aX 7 cols) (ha:cols[i]? =some a) (hf:fits c.n) (hT:l9 w):Rk prog 143 [I i,agg (ah c),.pointer (some ⟨b,0,none⟩)] w (I (eF a.type c)):=by
 obtain⟨A,m,rfl,⟨hm,qX⟩,hA⟩:=hc;have H:=Sep.aJ w;have bH:=gN ha;refine y7 func143 rfl rfl rfl rfl ?_;refine Sr (cB H (cs:=ah c) rfl (h:=λb0 _ _ _=>?_));refine Zb1 ?_;refine Ds (λk _ S=>?_);refine G0 (Gt rfl (Gives.sJ (cs:=[.slice A cols.length m]) rfl (S.kept.get hb id) rfl) ?_);refine Zb3 ?_;refine GS (Gt rfl (Gives.Rf (us:=aM a.type) rfl S hA ha rfl rfl) ?_);refine Zb1 ?_;refine gI k 6 _ S (rZ a.type c hf (hT.keep S.kept)) (h:=λ_ S _=>⟨sT,?_⟩);refine Zb1 ?_;exact⟨rfl,S.kept⟩
theorem afx {cols:List bF} {r:List ay} {vr:Value} {f:FuncId} {fs cs:LV} [Dn:qb prog f] (hr:aQ w vr ah 3 r) (hlen:cols.length=r.length)
    (p8: ∀(i:Nat) a c w',cols[i]? =some a->r[i]? =some c->Kept noB w w'->aY prog f (fs++[I i,agg (ah c)]++cs) w' λv w''=>v=I (eF a.type c)/\Kept noB w' w''):
    Rk prog 142 [vr,.func (.func f) fs.toArray cs.toArray] w (I (rH cols r 0)):=by
  obtain⟨A,m,rfl,⟨hm,qX⟩,hA⟩:=hr;have H:=Sep.aJ w;refine dF func142 rfl rfl rfl rfl ?_;refine Zb4 ?_;refine aR (λi:Nat=>[(1,.func (.func f) fs.toArray cs.toArray),(8,.slice A r.length m),(9,I r.length),(10,I i)]) (λi w'=>(i<=r.length/\rH cols r i=rH cols r 0)/\Sep w noB [] w') (λi _=>r.length-i) 0 tR ⟨⟨zaq _,rfl⟩,H⟩ (λi τ _ hI=>?_);obtain⟨⟨hi,fU⟩,k⟩:=hI
  try simp only[cK,like,aS,bK]
  refine Za1 ?_;refine Qn (dW (Cp rfl (λS=>?_) (λS=>?_)))
  . have bH:i<r.length:=oM
    obtain⟨c,hcg⟩:=get_some bH;obtain⟨a,ha⟩:=get_some (l:=cols) (i:=i) oM;rw[zX ha hcg]at fU;refine Zb3 ?_;refine aO k (h:=λb6 _ S _=>?_);refine Am ?_;refine ak S (h:=λ_ S=>?_);refine Zb3 ?_;refine dP (fs:=fs) (cs:=cs) (vals:=[I i,agg (ah c)]) rfl (p8 i a c _ ha hcg S.kept) rfl rfl (λv' _ hv=>?_);obtain⟨rfl,bZ⟩:=hv;have b:=S.keep bZ;refine Za3 ?_;refine Qn (Cp rfl (λS=>?_) (λS=>?_))
    . rw[zac S]at fU
      refine Zb2 ?_;exact⟨by rw[<-fU];rfl,b.kept⟩
    rw[zab S]at fU;refine Zb2 ?_;exact aj (i+1) tR ⟨⟨oM,fU⟩,b.dA⟩ oM
  rw[LQ oM]at fU;refine Zb1 ?_;exact⟨by rw[<-fU];rfl,k.kept⟩
theorem Eu {cols:List bF} {r:List ay} {vc vr:Value} (hc:aQ w vc aX 7 cols) (hr:aQ w vr ah 3 r) (hf:jI r) (hT:l9 w):Rk prog 93 [vc,vr] w (I (dY cols r)):=by
 have ZK:=hc;have hrr:=hr;obtain⟨A,m,rfl,⟨hm,qX⟩,hA⟩:=hc;obtain⟨C,n,rfl,⟨hn,hn'⟩,hC⟩:=hr;have H:=Sep.aJ w;refine dF func93 rfl rfl rfl rfl ?_;refine Sr (cB H (cs:=[.slice A cols.length m]) rfl (h:=λb0 _ k _=>?_));refine Za6 ?_;refine Qn (Cp rfl (λS=>?_) (λS=>?_))
 .have iC:=S
  refine Zb1 ?_;exact⟨by unfold dY;rw[zac oM];rfl,k.kept⟩
 have hlen:cols.length=r.length:=oM;refine Zb2 ?_;have Ew:=k.obj At0;refine aD k (afx (f:=143) (fs:=[]) (cs:=[.pointer (some ⟨b0,0,none⟩)]) (hrr.keep k.kept) hlen (λi a c w' ha hcg hk=>ach c (hk.get Ew id) ((ZK.keep k.kept).keep hk) ha (hf c (zam hcg)) ((hT.keep k.kept).keep hk))) (h:=λ_ S _=>?_);refine Zb1 ?_;exact⟨by rw[Jc hlen];rfl,S.kept⟩
end
end Go.Proofs.YtkfpleidaoaonaaGreatDoor
namespace Go.Proofs.YtkfpleidaoaonaaGreatDoor
open Go Go.Mw Go.Lib
set_option maxRecDepth 4000
attribute [local irreducible] FW FL FG FGn fZ gG cO gW Qfn Gives
theorem afy {cols:List bF} {l:List aZ} (h:(iA cols l).2=0):l.length<=64/\∃t,runT cols [] l=some [t]/\iA cols l=(t,0):=by
 unfold iA at h |-
 split at h
 .cases h
 rename_i h64;rw[zab h64];refine⟨oM,?_⟩
 split at h
 .rename_i t ht;exact⟨t,ht,by first | rfl | rw[ht]⟩
 cases h
theorem aci {cols:List bF} {ts ts':List bN} {x:aZ} (h:stepT cols ts x=some ts') (hk:x.kind=1): ∃i,lC cols x.n=some i:=by
 cases hf:lC cols x.n with
 | some i=>exact⟨i,rfl⟩
 | none=>
  unfold stepT at h;dsimp only at h
  split at h
  .cases h
  rw[zac ((Ag _).2 oM)]at h;unfold je at h;rw[zac hk,hf]at h;cases h
attribute [local irreducible] iA dY
section
variable {w:Wd}
end
end Go.Proofs.YtkfpleidaoaonaaGreatDoor
namespace Go.Proofs.YtkfpleidaoaonaaGreatDoor
open Go Go.Mw Go.Lib
set_option maxRecDepth 4000
attribute [local irreducible] FW FL FG FGn fZ gG cO gW Qfn Gives
def resE (cols:List bF) (r:List ay) (st:List ay) (x:aZ):Option ay:=
 if dz x.kind=0 then some (yP cols r x)else iZ x.kind (st.getD (st.length-dz x.kind) cell0) (st.getD (st.length-1) cell0)
theorem FZ (cols:List bF) (r:List ay) (st:List ay) (x:aZ):Cn cols r st x=(resE cols r st x).map λc=>st.take (st.length-dz x.kind)++[c]:=rfl
theorem Jg {cols:List bF} {r:List ay} {x:aZ} {ts ts':List bN} {st:List ay} (hr:dY cols r=0) (hf:jI r) (hx:fits x.n) (hT:Typed ts st) (hs:stepT cols ts x=some ts'):
    iE x=true/\dz x.kind<=st.length/\∀c,resE cols r st x=some c->Typed ts' (st.take (st.length-dz x.kind)++[c]):=by
  have hm:iE x=true:=by
    cases h:iE x with
    | true=>rfl
    | false=>rw[Vg (.inl h)]at hs;cases hs
  have yY:=Br hm
  have q9:dz x.kind<=st.length:=by
    rw[<-hT.1];refine Classical.byContradiction λh=>?_;rw[FX (.inr oM)]at hs;cases hs
  obtain⟨he,hg⟩:=Yo hr hf hx hT hs;refine⟨hm,q9,λc hc=>?_⟩;rw[FZ,hc,yY]at he;rw[yY]at hg;obtain⟨c',h1,h2⟩:=zav.1 he.symm;have:=List.append_cancel_left h2;injection this with h3
  subst h3;exact(hg _ h1).1
attribute [local irreducible] iA dY iE iZ lC
section
variable {w:Wd}
theorem afz {cols:List bF} {l:List aZ} {r:List ay} {vc vl vr:Value} (hc:aQ w vc aX 7 cols) (hl:aQ w vl aP 3 l) (hr:aQ w vr ah 3 r) (hf:jI r) (hx: ∀x∈l,fits x.n) (hT:l9 w):
    Rk Tryz.prog 90 [vc,vl,vr] w (.tuple #[agg (ah (lN cols l r).1),I (lN cols l r).2]):=by
  have ZK:=hc;have Jj:=hl;have hrr:=hr;obtain⟨A,m,rfl,⟨hm,qX⟩,hA⟩:=hc;obtain⟨C,n,rfl,⟨hn,hn'⟩,hC⟩:=hl;obtain⟨D,q,rfl,⟨hq,hq'⟩,hD⟩:=hr;have H:=Sep.aJ w;obtain⟨res,au⟩: ∃res,res=lN cols l r:=⟨_,rfl⟩;rw[<-au];unfold lN at au;refine Q9 Tryz.func90 rfl rfl rfl rfl ?_;refine Sr (aO H (h:=λb6 _ k _=>?_));refine Zb3 ?_;refine aD k (Me (ZK.keep k.kept) (Jj.keep k.kept) hx (hT.keep k.kept)) (h:=λ_ k _=>?_);refine Zb3 ?_;refine aO k (h:=λb8 _ k _=>?_);refine ak k (h:=λ_ k=>?_);refine Za3 ?_;refine Qn (Cp rfl (λS=>?_) (λS=>?_))
  . have fu:res=(cell0,(iA cols l).2):=by rw[au,zac S]
    refine Sr (Vb (ah cell0) ?_);refine Mv ?_;refine ak k (h:=λ_ e=>?_);refine Am ?_;refine Qn (Rs (aN (h:=?_)));exact⟨_,gK e,by rw[fu];rfl,e.kept⟩
  have ams:(iA cols l).2=0:=by simpa using S
  obtain⟨h64,t,iw,htt⟩:=afy ams;rw[zab (by simpa using ams)]at au;refine Zb2 ?_;refine aD k (Eu (ZK.keep k.kept) (hrr.keep k.kept) hf (hT.keep k.kept)) (h:=λ_ e _=>?_);refine Za3 ?_;refine Qn (Cp rfl (λS=>?_) (λS=>?_))
  . have fu:res=(cell0,dY cols r):=by rw[au,zac S]
    refine Sr (Vb (ah cell0) ?_);refine Mv ?_;refine ak e (h:=λ_ k=>?_);refine Am ?_;refine Qn (Rs (aN (h:=?_)));exact⟨_,gK k,by rw[fu];rfl,k.kept⟩
  have Ak:dY cols r=0:=by simpa using S
  rw[zab (by simpa using Ak)]at au;obtain⟨hlen,_⟩:=afw Ak;refine Zb0 ?_;refine aO e (h:=λb11 _ k _=>?_);refine Zb3 ?_;have S:=Sep.nE ((k.aU.aL).firsts (l:=[_,_])) 52 3 ah;refine aR (λx:Nat×List ay×Value=>[(0,.slice A cols.length m),(2,.slice D r.length q),(6,.pointer (some ⟨b6,0,none⟩)),(11,.pointer (some ⟨b11,0,none⟩)),(35,.slice C l.length n),(36,I l.length),(37,I x.1)]) (λx w'=>(x.1<=l.length/\(∃ts,Typed ts x.2.1/\runT cols ts (l.drop x.1)=some [t])/\x.2.1.length<=x.1/\zS cols r x.2.1 (l.drop x.1)=zS cols r [] l)/\Sep w noB [bJ 52 3 ah x.2.2 x.2.1,blk b11 [x.2.2] 208,blk b6 (ah cell0) 52] w') (λx _=>l.length-x.1) (0,[],.slice none 0 0) tR ⟨⟨zaq _,⟨[],Typed.nil,iw⟩,zbk _,rfl⟩,S⟩ (λx τ _ hI=>?_);obtain⟨i,st,v0⟩:=x;obtain⟨⟨hi,⟨ts,hTy,hts⟩,hsl,fU⟩,S⟩:=hI;dsimp only at hi hTy hts hsl fU S;obtain⟨B,cb,rfl,Po,hB⟩:=Sep.dQ S At0
  try simp only[cK,like,aS,bK]
  refine Za1 ?_;refine Qn (dW (Cp rfl (λk=>?_) (λk=>?_)))
  . have bH:i<l.length:=oM
    obtain⟨x,EC⟩:=get_some bH
    have hdr:l.drop i=x::l.drop (i+1):=by
      rw[zbn bH];rw[zaa bH]at EC;injection EC with EC;rw[EC]
    rw[hdr,runT]at hts;rw[hdr,zS,FZ]at fU;obtain⟨ts',xH,ah3⟩:=zdq.1 hts;have hfx:=hx x (zam EC);obtain⟨VI,hkn,hg⟩:=Jg Ak hf hfx hTy xH;obtain⟨lY,akl⟩:=Ph VI;have hk2:=Pg x.kind;refine Zb2 ?_;refine aO S (h:=λb13 _ k _=>?_);refine ak k (h:=λ_ k=>?_);refine Zb2 ?_;refine aD k (Zr x.kind) (h:=λ_ k _=>?_);obtain⟨F0,dS,gH,aI⟩:=k.focus At2;refine aK (Rn dS hkn Po oM) rfl rfl (λv' _ hv=>?_);obtain⟨rfl,bZ,F1,pF,hs⟩:=hv;have k:=aI _ F1 _ bZ pF hs;have Ml:(st.take (st.length-dz x.kind)).length=st.length-dz x.kind:=by rw[zaj];omega
    refine Za9 ?_;refine Qn (Cp rfl (λe=>?_) (λe=>?_))
    . have yK: ¬dz x.kind=0:=oM
      have hk7:7<=x.kind:=by
        refine Classical.byContradiction λh=>yK (r9.2 oM)
      obtain⟨a,ha⟩:=get_some (l:=st) (i:=st.length-dz x.kind) oM;obtain⟨b,hb⟩:=get_some (l:=st) (i:=st.length-1) oM;obtain⟨ta,hta⟩:=get_some (l:=ts) (i:=st.length-dz x.kind) (by have:=hTy.1;omega);obtain⟨tb,VY⟩:=get_some (l:=ts) (i:=st.length-1) (by have:=hTy.1;omega);have oa:=hTy.2 _ ta a hta ha;have ob:=hTy.2 _ tb b VY hb;have hrg:resE cols r st x=iZ x.kind a b:=by unfold resE;rw[zab yK,mO ha,mO hb]
      have e:=Vu (d:=cell0) hk7 hkn;rw[mO ha,mO hb]at e;refine Zb3 ?_;refine aK (afv (Md (jG k At1) Po (Sep.aft k At1) hkn) e hk7 akl oa.2 ob.2) rfl rfl (λv' _ hv=>?_);obtain⟨⟨cm,rfl,hcm⟩,bZ⟩:=hv;have e:=k.keep bZ;refine Zb3 ?_;refine aO e (h:=λb16 _ e _=>?_);refine ak e (h:=λ_ e=>?_);refine Za3 ?_;refine Qn (Cd rfl (λf=>?_) (λf=>?_))
      . have nI:iZ x.kind a b=none:=by
          cases h:iZ x.kind a b with
          | none=>rfl
          | some y=>rw[h]at f;cases f
        rw[hrg,nI]at fU;rw[<-fU]at au;have fu:res=(cell0,50):=au;refine Sr (Vb (ah cell0) ?_);refine ak e (h:=λ_ g=>?_);refine Am ?_;refine Qn (Rs (bM (bM (dM (lQ (bM (dM (aN (h:=?_)))))))));exact⟨_,gK g,by rw[fu];rfl,g.kept⟩
      obtain⟨y,hy⟩: ∃y,iZ x.kind a b=some y:=by
        cases h:iZ x.kind a b with
        | none=>rw[h]at f;cases f
        | some y=>exact⟨y,rfl⟩
      have hcy:=hcm y hy;subst hcy;have hrv:resE cols r st x=some cm:=by rw[hrg,hy]
      refine Zb1 ?_;refine Bs e ([cm].flatMap ah) (λbs _ g _=>?_);obtain⟨F0,dS,gH,aI⟩:=g.focus At4;have hRc:=(jG g At3).cut (st.length-dz x.kind);have Jz:aQ _ (.slice (some ⟨bs,0,none⟩) 1 1) ah 3 [cm]:=⟨some ⟨bs,0,none⟩,1,rfl,⟨sM,oM⟩,Sep.nA g At0 rfl⟩;refine aK (uR (l:=st.take (st.length-dz x.kind)) (by rw[Ml];exact dS) hRc Jz sM (by simp;omega)) rfl rfl (λv' _ hv=>?_);obtain⟨v2,rfl,_,bZ,F1,pF,hs⟩:=hv;have g:=((aI _ F1 _ bZ pF hs).fC).bR;refine Zb2 ?_;exact aj (i+1,st.take (st.length-dz x.kind)++[cm],v2) tR ⟨⟨dO,⟨ts',hg _ hrv,ah3⟩,by dsimp only;rw[zad,Ml];simp;omega,by rw[hrv]at fU;exact fU⟩,(g.jL.aL.aU).firsts (l:=[_,_,_])⟩ dO
    have yK:dz x.kind=0:=oM;have hrg:resE cols r st x=some (yP cols r x):=zac yK;have hk6:x.kind<=6:=by have:=r9.1 yK;omega
    refine Za4 ?_;refine Qn (Cp rfl (λg=>?_) (λg=>?_))
    . obtain⟨ci,hci⟩:=aci xH g
      have aso:=Rh hci;obtain⟨c0,f⟩:=get_some (l:=r) (i:=ci) oM;have Jw:yP cols r x=c0:=by unfold yP;rw[zac g,hci,zdf,mO f]
      have hrv:resE cols r st x=some c0:=by rw[hrg,Jw]
      refine Zb4 ?_;refine aD k (find_ok x.n (ZK.keep k.kept)) (h:=λ_ g _=>?_);rw[hci,show BI (some ci)=((ci:Nat):Int)from rfl];refine Vv (Gives.jJ rfl rfl hD (gN f)) (Vv (Gives.iL rfl g hD f) ?_);refine Bs g ([c0].flatMap ah) (λbs _ g _=>?_);obtain⟨F0,dS,gH,aI⟩:=g.focus At3;have hRc:=(jG g At2).cut (st.length-dz x.kind);have Jz:aQ _ (.slice (some ⟨bs,0,none⟩) 1 1) ah 3 [c0]:=⟨some ⟨bs,0,none⟩,1,rfl,⟨sM,oM⟩,Sep.nA g At0 rfl⟩;refine aK (uR (l:=st.take (st.length-dz x.kind)) (by rw[Ml];exact dS) hRc Jz sM (by simp;omega)) rfl rfl (λv' _ hv=>?_);obtain⟨v2,rfl,_,bZ,F1,pF,hs⟩:=hv;have g:=((aI _ F1 _ bZ pF hs).bE).bR;refine Zb2 ?_;exact aj (i+1,st.take (st.length-dz x.kind)++[c0],v2) tR ⟨⟨dO,⟨ts',hg _ hrv,ah3⟩,by dsimp only;rw[zad,Ml];simp;omega,by rw[hrv]at fU;exact fU⟩,(g.jK.aL.aU).firsts (l:=[_,_,_])⟩ dO
    refine Za4 ?_;refine Qn (Cp rfl (λg=>?_) (λg=>?_))
    . have Jw:yP cols r x=bU:=by unfold yP;rw[zab oM,zac g]
      have hrv:resE cols r st x=some bU:=by rw[hrg,Jw]
      refine Zb0 ?_;refine Vb (ah bU) ?_;refine Bs k ([bU].flatMap ah) (λbs _ g _=>?_);obtain⟨F0,dS,gH,aI⟩:=g.focus At3;have hRc:=(jG g At2).cut (st.length-dz x.kind);have Jz:aQ _ (.slice (some ⟨bs,0,none⟩) 1 1) ah 3 [bU]:=⟨some ⟨bs,0,none⟩,1,rfl,⟨sM,oM⟩,Sep.nA g At0 rfl⟩;refine aK (uR (l:=st.take (st.length-dz x.kind)) (by rw[Ml];exact dS) hRc Jz sM (by simp;omega)) rfl rfl (λv' _ hv=>?_);obtain⟨v2,rfl,_,bZ,F1,pF,hs⟩:=hv;have g:=((aI _ F1 _ bZ pF hs).bE).bR;refine Zb2 ?_;exact aj (i+1,st.take (st.length-dz x.kind)++[bU],v2) tR ⟨⟨dO,⟨ts',hg _ hrv,ah3⟩,by dsimp only;rw[zad,Ml];simp;omega,by rw[hrv]at fU;exact fU⟩,(g.jK.aL.aU).firsts (l:=[_,_,_])⟩ dO
    have Jw:yP cols r x=⟨false,x.n,x.s⟩:=by unfold yP;rw[zab oM,zab oM]
    have hrv:resE cols r st x=some ⟨false,x.n,x.s⟩:=by rw[hrg,Jw]
    refine Zb4 ?_;refine Vb (ah ⟨false,x.n,x.s⟩) ?_;refine Bs k ([(⟨false,x.n,x.s⟩:ay)].flatMap ah) (λbs _ g _=>?_);obtain⟨F0,dS,gH,aI⟩:=g.focus At3;have hRc:=(jG g At2).cut (st.length-dz x.kind);have Jz:aQ _ (.slice (some ⟨bs,0,none⟩) 1 1) ah 3 [(⟨false,x.n,x.s⟩:ay)]:=⟨some ⟨bs,0,none⟩,1,rfl,⟨sM,oM⟩,Sep.nA g At0 rfl⟩;refine aK (uR (l:=st.take (st.length-dz x.kind)) (by rw[Ml];exact dS) hRc Jz sM (by simp;omega)) rfl rfl (λv' _ hv=>?_);obtain⟨v2,rfl,_,bZ,F1,pF,hs⟩:=hv;have g:=((aI _ F1 _ bZ pF hs).bE).bR;refine Zb2 ?_;exact aj (i+1,st.take (st.length-dz x.kind)++[⟨false,x.n,x.s⟩],v2) tR ⟨⟨dO,⟨ts',hg _ hrv,ah3⟩,by dsimp only;rw[zad,Ml];simp;omega,by rw[hrv]at fU;exact fU⟩,(g.jK.aL.aU).firsts (l:=[_,_,_])⟩ dO
  have oQ:i=l.length:=oM;rw[oQ,zfd,runT]at hts;rw[oQ,zfd,zS]at fU;rw[<-fU]at au;have apy:ts=[t]:=by injection hts
  have h1:st.length=1:=by rw[<-hTy.1,apy];rfl
  obtain⟨c,g⟩:=List.length_eq_one_iff.1 h1;have hg0:st[0]? =some c:=by rw[g];rfl
  have fu:res=(c,0):=by rw[au,g];rfl
  refine Zb2 ?_;refine Vv (Gives.jJ (i:=0) rfl rfl hB oM) (Vv (Gives.FT (i:=0) rfl hB hg0) ?_);refine ak S (h:=λ_ g=>?_);refine Am ?_;refine Qn (dX (aN (h:=?_)));exact⟨_,gK g,by rw[fu];rfl,g.kept⟩
end
end Go.Proofs.YtkfpleidaoaonaaGreatDoor
namespace Go.Proofs.YtkfpleidaoaonaaGreatDoor
open Go Go.Mw Go.Lib Go.Proofs.Tryz
set_option maxRecDepth 4000
/-! A row that is sorted,then rid of what comes twice. -/
theorem Cy {zs:List Int} (h:zs.Pairwise (· <= ·)):(Lib.compact zs).Pairwise (· < ·)/\∀k,k∈Lib.compact zs↔k∈zs:=by
 have q9: ∀i j,i<=j->j<zs.length->zs.toArray[i]! <=zs.toArray[j]! :=λi j Yy hj=>by
  have e: ∀k,k<zs.length->zs.toArray[k]! =zs.getD k 0:=λk hk=>by
   rw[zak,zaa hk,getElem!_pos zs.toArray k (by simpa using hk)];simp
  rw[e i oM,e j hj]
  rcases zdr i j with h1 | h1
  .have:=zfr.1 h i j oM hj h1
   rw[zak,zaa (show i<zs.length from oM),zak,zaa hj];exact this
  have :i=j:=by omega
  subst this;exact Int.le_refl _
 have qZ: ∀k,k∈zs↔∃j,j<zs.length/\zs.toArray[j]! =k:=λk=>by
  constructor
  .intro hk
   obtain⟨j,hj,e⟩:=zfx hk;exact⟨j,hj,by rw[getElem!_pos zs.toArray j (by simpa using hj)];simpa using e⟩
  rintro⟨j,hj,e⟩;rw[getElem!_pos zs.toArray j (by simpa using hj)]at e;rw[<-e];simp
 unfold Lib.compact Lib.compactUpTo;constructor
 .rw[List.pairwise_map]
  have hp:((List.range zs.length).filter (Lib.keeps zs.toArray)).Pairwise (· < ·):=List.pairwise_lt_range.filter _;refine hp.imp_of_mem λ{i j} hi hj Yy=>?_;rw[zbw,zdp]at hi hj;have hk:=hj.2;unfold Lib.keeps at hk;have h0:j≠0:=oM;have h1:=q9 i (j-1) oM oM;have h2:=q9 (j-1) j oM hj.1;have h3:zs.toArray[j]! ≠zs.toArray[j-1]! :=by simpa[h0]using hk
  omega
 intro k;rw[qZ];simp only[zat,zbw,zdp];constructor
 .rintro⟨j,⟨hj,_⟩,e⟩;exact⟨j,hj,e⟩
 rintro⟨j,hj,e⟩
 induction j using Nat.strongRecOn with
 | _ j ih=>
  by_cases hk:Lib.keeps zs.toArray j=true
  .exact⟨j,⟨hj,hk⟩,e⟩
  have h0:j≠0:=λe0=>by subst e0;exact hk (by simp[Lib.keeps])
  have h3:zs.toArray[j]! =zs.toArray[j-1]! :=by
   unfold Lib.keeps at hk;simpa[h0]using hk
  exact ih (j-1) oM oM (by rw[<-h3];exact e)
theorem Jh (l:List aZ):Lib.compact (((l.filter λx=>decide (x.kind=1)).map λx=>x.n).mergeSort λx y=>decide (x<=y))=qR l:=by
 have hs:(((l.filter λx=>decide (x.kind=1)).map λx=>x.n).mergeSort λx y=>decide (x<=y)).Pairwise (· <= ·):=by
  have:=List.pairwise_mergeSort (le:=λx y:Int=>decide (x<=y)) (λa b c h1 h2=>by simp at *;omega) (λa b=>by simp;omega) ((l.filter λx=>decide (x.kind=1)).map λx=>x.n);exact this.imp λh=>by simpa using h
 obtain⟨h1,h2⟩:=Cy hs;refine Dk h1 (z8 l) λk=>?_;rw[h2,List.mem_mergeSort,sG];simp only[zat,zbw,decide_eq_true_eq,and_assoc]
theorem Vy {e c m:Nat} {A:OA} {l:List Int} {F:NP} {w:Wd} {g:Nat} {d:Array Int} {k:Nat} {os:Array Obj} (hp:(bJ e 1 intCells (.slice A l.length c) l).ok F w) (hA:A=some ⟨g,0,none⟩) (hd:d.size=l.length) (hm:m<=l.length):
    Turn F (bJ e 1 intCells (.slice A m c) (d.toList.take m)) w (Sort.grow (Sort.putRow (Value.int .i64) (Sort.ahead w k) g 0 d) os):=by
  obtain⟨⟨h1,h2⟩,h3⟩:=hp
  rcases h2 with⟨hv,_⟩ | ⟨g',cap,cur,hv,hg,hh,q9,hmax,hsz,yY⟩
  . injection hv with e1;rw[hA]at e1;cases e1
  injection hv with e1 e2 e3
  rw[hA]at e1;injection e1 with e1
  injection e1 with e1
  subst e1;subst e3;have bH:=jB hh
  have iC: ∀b,b≠g->(Sort.putRow (Value.int .i64) (Sort.ahead w k) g 0 d).heap[b]? =w.heap[b]? :=λb hb=>by
    show((w.heap.modify g (Sort.onCells _)))[b]? =_
    rw[zcs,zab (λe=>hb e.symm)]
  have hat:(Sort.putRow (Value.int .i64) (Sort.ahead w k) g 0 d).heap[g]? =some (.cells (Sort.putCells (Value.int .i64) 0 d cur) e (0,0)):=by
    show((w.heap.modify g (Sort.onCells _)))[g]? =_
    rw[zcs,zac rfl,hh];rfl
  have amt:(Sort.putRow (Value.int .i64) (Sort.ahead w k) g 0 d).heap.size=w.heap.size:=Sort.size_putRow _ _ _ _ _
  have aiP: ∀b,b<w.heap.size->(Sort.grow (Sort.putRow (Value.int .i64) (Sort.ahead w k) g 0 d) os).heap[b]? =(Sort.putRow (Value.int .i64) (Sort.ahead w k) g 0 d).heap[b]? :=λb hb=>by
    show(_++os)[b]? =_
    rw[zfm (by rw[amt];exact hb)]
  refine⟨⟨rfl,rfl,rfl,by rw[Sort.size_grow,amt];omega,λb hb hF=>?_⟩,F,⟨⟨?_,.inr ⟨g,c,Sort.putCells (Value.int .i64) 0 d cur,by rw[hA,zaj];congr 1;simp[hd];omega,zaq _,?_,?_,hmax,?_,?_⟩⟩,λb=>?_⟩,λb hb=>.inl hb⟩
  . rw[aiP b hb,iC b λe=>hF ((h3 b).2 (by rw[e,hA];rfl))]
  . rw[jr (k:=1) (λ_=>rfl)]
  . rw[aiP g bH,hat]
  . rw[zaj];simp[hd];omega
  . rw[Sort.putCells,Array.size_mapIdx];exact hsz
  . have Rq:l.length<=cur.size:=by rw[hsz];omega
    rw[Nat.mul_one,zaj,zfy,hd,zcv hm];refine zeh λj=>?_;rw[zck]
    have JA: ∀zs:List Int,zs.flatMap intCells=zs.map (Value.int .i64):=λzs=>by
      induction zs with
      | nil=>rfl
      | cons z zs ih=>rw[zbc,ih];rfl
    rw[JA,zcr,zck]
    by_cases hj:j<m
    . rw[zac hj,zac hj]
      have VX:j<cur.size:=oM;have hj3:j<d.size:=oM;rw[Array.getElem?_toList,Sort.putCells,Array.getElem?_mapIdx,zdj VX,Array.getElem?_toList,zdj hj3];simp only[zda];rw[zac ⟨zaq _,oM⟩,zfg,getElem!_pos d j hj3]
    rw[zab hj,zab hj];rfl
  rw[h3 b,hA];rfl
theorem Pk {e c:Nat} {A:OA} {l:List Int} {F:NP} {w:Wd} (hp:(bJ e 1 intCells (.slice A l.length c) l).ok F w) (iC:l≠[]): ∃g,A=some ⟨g,0,none⟩/\Sort.Holds (Value.int .i64) w g 0 l.toArray/\g<w.heap.size/\l.length<=c:=by
 obtain⟨mR,h3⟩:=hp;have hown':=mR;obtain⟨h1,h2⟩:=mR
 rcases h2 with⟨hv,h0⟩ | ⟨g,cap,cur,hv,hg,hh,q9,hmax,hsz,yY⟩
 .exact zap (zbe h0) iC
 injection hv with e1 e2 e3
 refine⟨g,e1,λj hj=>?_,jB hh,oM⟩;have hj':j<l.length:=by simpa using hj
 have hr:gV w A l.length 1 (l.flatMap intCells):=D6 hown';obtain⟨ad,hA,EB⟩:=hr.at_ oM;rw[e1]at hA;injection hA with hA
 subst hA;have hx:=flat_get (enc:=intCells) (k:=1) (λ_=>rfl) (zaa hj') (show 0<1 from dC);have:=EB _ _ (hx.trans rfl);rw[Addr.add_lit]at this;refine⟨by rw[show 0+j=0+(j*1+0)from oM,this,getElem!_pos l.toArray j hj];simp[I],?_⟩;simp[World.frozen?,hh]
section
variable {w:Wd}
theorem Zw {e c:Nat} {A:OA} {l:List Int} {F:NP} (hp:(bJ e 1 intCells (.slice A l.length c) l).ok F w) (hl:l.length<=1000000):
    aY prog 72 [.slice A l.length c] w λv w'=>v=.tuple #[]/\Turn F (bJ e 1 intCells (.slice A l.length c) (l.mergeSort λx y=>decide (x<=y))) w w':=by
  by_cases iC:l=[]
  . subst iC
    refine Calls.mono (Tryz.slices_Sort_int_none A c w) λen w' he=>?_;obtain⟨rfl,rfl⟩:=he;exact⟨rfl,by rw[List.mergeSort_nil];exact Turn.refl hp⟩
  obtain⟨g,hA,hH,hg,_⟩:=Pk hp iC;have hlen:(l.mergeSort λx y=>decide (x<=y)).length=l.length:=zfi l;have hA':=hA;subst hA';refine Calls.mono (Tryz.slices_Sort_int g 0 c l w hH hg oM) λen w' he=>?_;obtain⟨rfl,n,os,rfl⟩:=he;refine⟨rfl,?_⟩;have:=Vy (k:=n) (os:=os) (d:=(l.mergeSort λx y=>decide (x<=y)).toArray) hp rfl sM (zbk _)
  rwa [zax (by simp[hlen])]at this
theorem Mf {e c:Nat} {A:OA} {l:List Int} {F:NP} (hp:(bJ e 1 intCells (.slice A l.length c) l).ok F w) (hl:l.length<=1000000):
    aY prog 73 [.slice A l.length c] w λv w'=>v=.slice A (Lib.compact l).length c/\Turn F (bJ e 1 intCells (.slice A (Lib.compact l).length c) (Lib.compact l)) w w':=by
  by_cases iC:l=[]
  . subst iC
    refine Calls.mono (Tryz.slices_Compact_int_empty A c w) λen w' he=>?_;obtain⟨rfl,rfl⟩:=he;exact⟨rfl,Turn.refl hp⟩
  obtain⟨g,hA,hH,hg,hc⟩:=Pk hp iC;have hlen:=Lib.compact_length_le l;have hA':=hA;subst hA';refine Calls.mono (Tryz.slices_Compact_int g 0 c l w hH oM hc) λen w' he=>?_;obtain⟨rfl,n,rfl⟩:=he;refine⟨rfl,?_⟩;have:=Vy (k:=n) (os:= #[]) (d:=(Lib.compact l++List.replicate (l.length-(Lib.compact l).length) 0).toArray) hp rfl (by simp;omega) hlen;rw[Sort.grow_empty]at this;simpa using this
end
attribute [local irreducible] FW FL FG FGn fZ gG cO gW Qfn Gives
def Jv (l:List aZ):List Int:=(l.filter λx=>decide (x.kind=1)).map λx=>x.n
theorem ahz {l:List aZ} {i:Nat} {x:aZ} (h:l[i]? =some x) (hk:x.kind=1):Jv (l.take (i+1))=Jv (l.take i)++[x.n]:=by
 unfold Jv;rw[zbd,h,zga,zau];simp[hk]
theorem ajJ {l:List aZ} {i:Nat} {x:aZ} (h:l[i]? =some x) (hk: ¬x.kind=1):Jv (l.take (i+1))=Jv (l.take i):=by
 unfold Jv;rw[zbd,h,zga,zau];simp[hk]
theorem ahA (l:List aZ):(Jv l).length<=l.length:=by
 unfold Jv;rw[zaf];exact zep _ _
section
variable {w:Wd}
theorem Vz {l:List aZ} {vl:Value} (hl:aQ w vl aP 3 l) (uS:l.length<=1000):
    aY Tryz.prog 71 [vl] w λv w'=>∃x,v=x/\True/\Turn noB (bJ 3 1 intCells x (qR l)) w w':=by
  obtain⟨C,n,rfl,⟨hn,hn'⟩,hC⟩:=hl;have H:=Sep.aJ w;rw[<-Jh l];refine dI Tryz.func71 rfl rfl rfl rfl ?_;refine Zb4 ?_;have k:=Sep.nE H 3 1 intCells;refine aR (λx:Nat×Value=>[(2,x.2),(5,.slice C l.length n),(6,I l.length),(7,I x.1)]) (λx w'=>x.1<=l.length/\Sep w noB [bJ 3 1 intCells x.2 (Jv (l.take x.1))] w') (λx _=>l.length-x.1) (0,.slice none 0 0) tR ⟨zaq _,k⟩ (λx τ _ hI=>?_);obtain⟨i,v0⟩:=x;obtain⟨hi,k⟩:=hI;dsimp only at hi k;obtain⟨B,cb,rfl,Po,hB⟩:=Sep.dQ k At0;have oQ:=ahA (l.take i);rw[zaj,zcv hi]at oQ
  try simp only[cK,like,aS,bK]
  refine Za1 ?_;refine Qn (dW (Cp rfl (λS=>?_) (λS=>?_)))
  . have bH:i<l.length:=oM
    obtain⟨x,EC⟩:=get_some bH;refine Zb2 ?_;refine aO k (h:=λb4 _ S _=>?_);refine ak S (h:=λ_ S=>?_);refine Za3 ?_;refine Qn (Cp rfl (λa=>?_) (λa=>?_))
    . have hid:=ahz EC a
      refine Zb3 ?_;refine Bs S ([x.n].flatMap intCells) (λbs _ b _=>?_);refine gP b (news:=[x.n]) At1 (by unfold maxLen;simp;omega) (by simp;omega) (cells_one (λ_=>rfl) [x.n]) (h:=?_);intro v2 b b;rw[<-hid]at b;refine Zb3 ?_;exact aj (i+1,v2) tR ⟨dO,(b).dA⟩ dO
    have hid:=ajJ EC a;refine Zb2 ?_;exact aj (i+1,.slice B (Jv (l.take i)).length cb) tR ⟨dO,by dsimp only;rw[hid];exact(S).dA⟩ dO
  have hie:i=l.length:=oM;rw[hie,zbo]at k oQ ⊢;refine Zb1 ?_;obtain⟨F0,dS,gH,aI⟩:=k.focus At0;refine aK (Zw dS oM) rfl rfl (λv' _ hv=>?_);obtain⟨rfl,bZ,F1,hq,hs⟩:=hv;have b:=aI _ F1 _ bZ hq hs;have Bz:((Jv l).mergeSort λx y=>decide (x<=y)).length=(Jv l).length:=zfi _;rw[<-Bz]at b;refine Zb1 ?_;obtain⟨F0,dS,gH,aI⟩:=b.focus At0;refine aK (Mf dS oM) (by rw[Bz];rfl) rfl (λv' _ hv=>?_);obtain⟨rfl,bZ,F1,hq,hs⟩:=hv;have b:=aI _ F1 _ bZ hq hs;refine Zb1 ?_;exact⟨_,rfl,trivial,b.turn⟩
end
end Go.Proofs.YtkfpleidaoaonaaGreatDoor
namespace Go.Mw
open Go.RowKit
section
variable {P:Program} {ρ:Od->Value} {ty:Td} {w:Wd} {x y:Od}
theorem Gives.afA {src dst t e:Td} {n bytes cells b:Nat} (hs:P.underlying src=some (.pointer t)) (hd:P.underlying dst=some .unsafePointer) [hz:Cells P t n bytes] (hn:n≠0) (hsh:w.shape? b=some (e,cells)) (hc:0<cells) (hx:ρ x=.pointer (some ⟨b,0,none⟩)):
    Gives P ρ (.convert src dst x) ty w (.pointer (some ⟨b,0,none⟩)) w:=λ_ _ _ _=>by
  obtain⟨j,ht,p9⟩:=zav.1 hz.size;simp only[Prod.mk.injEq]at p9;have:=Lib.run_to_unsafe (P:=P) w ⟨b,0,none⟩ hs hd ht (by rw[p9.1];exact hn) hsh hc;simp only[execOp,hx,zbh,this,zai,zbm]
theorem Gives.Yp {src dst u e:Td} {n bytes cells b:Nat} (hs:P.underlying src=some .unsafePointer) (hd:P.underlying dst=some (.pointer u)) [hz:Cells P u n bytes] (hsh:w.shape? b=some (e,cells)) (hl:liesAt P P.depth e (cells/P.cellsOf e) 0 u 1=true) (hx:ρ x=.pointer (some ⟨b,0,none⟩)):
    Gives P ρ (.convert src dst x) ty w (.pointer (some ⟨b,0,none⟩)) w:=λ_ _ _ _=>by
  obtain⟨j,hu,_⟩:=zav.1 hz.size;have:=Lib.run_from_unsafe (P:=P) w ⟨b,0,none⟩ hs hd hu hsh hl;simp only[execOp,hx,zbh,this,zai,zbm]
theorem Gives.ajK {T U te:Td} {n bytes b:Nat} (hp:P.underlying T=some (.pointer te)) [hz:Cells P te n bytes] (hx:ρ x=.pointer (some ⟨b,0,none⟩)) (hy:ρ y=.pointer (some ⟨b,0,none⟩)) (hg: ∀x y,(eqGuard .neq T x y (.pointer (some ⟨b,0,none⟩)) (.pointer (some ⟨b,0,none⟩))).run P w=.ok () w):
    Gives P ρ (.binOp .neq T x y U) ty w (.bool false) w:=
  .bin hx hy hg (by
    obtain⟨j,ht,_⟩:=zav.1 hz.size;exact Lib.run_neq_ptr_same (P:=P) w ⟨b,0,none⟩ hp ht)
class Mg (P:Program) (f:FuncId):Prop where
 run: ∀v w,(callFunc f #[v]).run P w=.ok (.value v) w
theorem Gives.afB {σ:St} {f:FuncId} [h:Mg P f] {ats:Array Td} {v:Value} (hx:evF σ x=v):Gives P (evF σ) (.call {callee:=.value (.func f),args:= #[x],argTypes:=ats}) ty w v w:=λ_ _ _ _=>by
 have e:(#[]++ #[x].map (evF σ)++ #[]:Array Value)= #[v]:=by simp[hx]
 show(callFunc f (#[]++ #[x].map (evF σ)++ #[])).run P w=_
 rw[e,h.run]
theorem Pm {w:Wd} {b:Nat} {cs:LV} {e:Td} (h:w.heap[b]? =some (.cells cs.toArray e (0,0))):w.shape? b=some (e,cs.length):=by
 unfold World.shape?;rw[h];simp
theorem Gives.sliceData {ts:Array Td} {v:Value} {w':Wd} (h:(Builtin.unsafeSliceData_ ts ty #[ρ x]).run P w=.ok v w'):Gives P ρ (.call {callee:=.builtin .unsafeSliceData,args:= #[x],argTypes:=ts}) ty w v w':=λ_ _ _ _=>by
 simp only[execOp,resolve,invoke,builtin,zbh,zbm,zai,zcg,zay,zcm,h]
theorem Gives.unsafeStr {ts:Array Td} {v:Value} {w':Wd} (h:(Builtin.unsafeString_ ts ty #[ρ x,ρ y]).run P w=.ok v w'):Gives P ρ (.call {callee:=.builtin .unsafeString,args:= #[x,y],argTypes:=ts}) ty w v w':=λ_ _ _ _=>by
 simp only[execOp,resolve,invoke,builtin,zbh,zbm,zai,zcg,zay,zcm,h]
end
end Go.Mw
namespace Go.Proofs.YtkfpleidaoaonaaGreatDoor
open Go Go.Mw Go.Lib
set_option maxRecDepth 4000
attribute [local irreducible] FW FL FG FGn fZ gG cO gW Qfn Gives
instance:Mg Tryz.prog 328:=⟨λv w=>by
 rw[run_callFunc_extern Tryz.func328 kR kR kR (e:=Extern.AbiNoEscape.same) kR,Lib.run_noEscape];rfl⟩
def av (b:Nat):Value:=.pointer (some ⟨b,0,none⟩)
def um (b:Nat) (l:L8):HP:=exH λx:Value×Value=>star (jo ((x.1=.pointer none\/x.1=av b)/\(l=[]->x.2=.slice none 0 0))) (star (blk b [x.1,x.2] 259) (lF 5 x.2 l))
section
variable {w w0:Wd} {S:NP} {rs:List HP}
theorem Sep.Mh {b:Nat} {l:L8} (H:Sep w0 S (um b l::rs) w): ∃a v,((a=.pointer none\/a=av b)/\(l=[]->v=.slice none 0 0))/\Sep w0 S (blk b [a,v] 259::lF 5 v l::rs) w:=by
 obtain⟨x,k⟩:=H.ex0;obtain⟨h,I⟩:=k.bR.rO;exact⟨x.1,x.2,h,I.bR⟩
theorem Sep.Pn {b:Nat} {l:L8} {a v:Value} (ha:(a=.pointer none\/a=av b)/\(l=[]->v=.slice none 0 0)) (H:Sep w0 S (blk b [a,v] 259::lF 5 v l::rs) w):Sep w0 S (um b l::rs) w:=
 Sep.uq (a,v) (Sep.bD (Sep.jS ha (Sep.bD H)))
theorem Sep.ahB {b:Nat} (H:Sep w0 S (blk b [.pointer none,.slice none 0 0] 259::rs) w):Sep w0 S (um b []::rs) w:=
 Sep.Pn ⟨.inl rfl,λ_=>rfl⟩ (H.U6 5).aL
theorem VA {b:Nat} {v:Value} {F:NP} (hp:(blk b [.pointer none,v] 259).ok F w):aY Tryz.prog 250 [av b] w λr w'=>r=.tuple #[]/\Turn F (blk b [av b,v] 259) w w':=by
 have H:=Sep.bW hp;refine dI Tryz.func250 rfl rfl rfl rfl ?_;refine Za5 ?_;refine Qn (Cd rfl (λk=>?_) (λk=>?_))
 .refine Zb2 ?_
  refine Vv (Gives.afA (t:=259) kR kR dC (Pm (H.obj At0)) sM rfl) ?_;refine Vv (Gives.afB rfl) (Vv (Gives.Yp (u:=259) kR kR (Pm (H.obj At0)) kR rfl) ?_);refine Zb2 ?_;refine bB H (h:=λ_ S=>?_);refine Zb0 ?_;exact⟨rfl,S.turn⟩
 exact zap k sM
theorem Yq {b:Nat} {v:Value} {F:NP} (hp:(blk b [av b,v] 259).ok F w):aY Tryz.prog 250 [av b] w λr w'=>r=.tuple #[]/\Turn F (blk b [av b,v] 259) w w':=by
 have H:=Sep.bW hp;refine dI Tryz.func250 rfl rfl rfl rfl ?_;refine Za5 ?_;refine Qn (Cd rfl (λk=>?_) (λk=>?_))
 .exact zap k (by simp[av])
 refine Zb5 ?_;refine Vv (Gives.ajK (te:=259) kR rfl rfl (λ_ _=>rfl)) (Qn ?_);refine Cd rfl (λk=>?_) (λk=>?_)
 .cases k
 refine Zb0 ?_;exact⟨rfl,H.turn⟩
theorem Ah {b:Nat} {a v:Value} {F:NP} (ha:a=.pointer none\/a=av b) (hp:(blk b [a,v] 259).ok F w):aY Tryz.prog 250 [av b] w λr w'=>r=.tuple #[]/\Turn F (blk b [av b,v] 259) w w':=by
 rcases ha with rfl | rfl
 .exact VA hp
 exact Yq hp
theorem sj {b:Nat} {l:L8} {F:NP} (c:UInt8) (hp:(um b l).ok F w) (hl:l.length<=100000000):aY Tryz.prog 324 [av b,B c] w λr w'=>r=.nilIface/\Turn F (um b (l++[c])) w w':=by
 obtain⟨a,v,ha,H⟩:=Sep.Mh (Sep.bW hp);refine dF Tryz.func324 rfl rfl rfl rfl ?_;refine Zb2 ?_;obtain⟨F0,dS,gH,aI⟩:=H.focus At0;refine aK (Ah ha.1 dS) rfl rfl (λv' _ hv=>?_);obtain⟨rfl,bZ,F1,hq,hs⟩:=hv;have k:=aI _ F1 _ bZ hq hs;refine Zb6 ?_;refine Bs k ([c].map B) (λbs _ k _=>?_);refine oL k (news:=[c]) At1 (by simp;omega) (h:=?_);intro v2 k k;obtain⟨A2,c2,rfl,_⟩:=Sep.uI k At1;refine Zb2 ?_;refine bB k (h:=λ_ k=>?_);refine Zb1 ?_;exact⟨rfl,(Sep.Pn ⟨.inr rfl,λe=>zap e sM⟩ k).turn⟩
theorem tZ {b:Nat} {l news:L8} {F:NP} (iC:news≠[]) (hp:(um b l).ok F w) (hl:l.length+news.length<=100000000):aY Tryz.prog 181 [av b,str news] w λr w'=>r=.tuple #[I news.length,.nilIface]/\Turn F (um b (l++news)) w w':=by
 obtain⟨a,v,ha,H⟩:=Sep.Mh (Sep.bW hp);refine dF Tryz.func181 rfl rfl rfl rfl ?_;refine Zb3 ?_;obtain⟨F0,dS,gH,aI⟩:=H.focus At0;refine aK (Ah ha.1 dS) rfl rfl (λv' _ hv=>?_);obtain⟨rfl,bZ,F1,hq,hs⟩:=hv;have k:=aI _ F1 _ bZ hq hs;refine Zb6 ?_;refine LJ k (news:=news) At1 oM (h:=?_);intro v2 k k;obtain⟨A2,c2,rfl,_⟩:=Sep.uI k At1;refine Zb2 ?_;refine bB k (h:=λ_ k=>?_);refine Zb4 ?_;exact⟨rfl,(Sep.Pn ⟨.inr rfl,λe=>zap (List.append_eq_nil_iff.1 e).2 iC⟩ k).turn⟩
theorem VB {w:Wd} {F:NP} {g n:Nat} (hF:F g):Kept F w (w.freeze ⟨g,0,none⟩ n):=by
 unfold World.freeze
 split
 .exact Kept.refl _ _
 refine⟨rfl,rfl,rfl,sM,λk hk hn=>?_⟩;rw[zcs,zab (λe=>hn (by rw[<-e];exact hF))]
theorem VD {b:Nat} {l:L8} {F:NP} (hp:(um b l).ok F w) (hl:l.length<=100000000) (h0:l≠[]):aY Tryz.prog 182 [av b] w λr w'=>r=str l/\Turn F emp w w':=by
 obtain⟨a,v,ha,H⟩:=Sep.Mh (Sep.bW hp);obtain⟨A,c,rfl,q9,_,ZA⟩:=Sep.uI H At1;have hlen:l.length≠0:=λe=>h0 (zbe e);refine dI Tryz.func182 rfl rfl rfl rfl ?_;refine Zb1 ?_;refine Ds (λk S I=>?_);refine Zb4 ?_;refine Gm k 5 ?_;refine Zb4 ?_;obtain⟨F0,dS,gH,aI⟩:=I.focus At1;have Ak:=Sep.rowAt I At1
 obtain⟨g,hA,hF0,hsh⟩: ∃g,A=some ⟨g,0,none⟩/\F0 g/\S.shape? g=some (5,c):=by
  rcases dS.1.2 with⟨hv,h1⟩ | ⟨g,cap,cur,hv,_,hh,VP,_,hsz,_⟩
  .exact zap h1 hlen
  injection hv with e1 e2 e3
  refine⟨g,e1,(dS.2 g).2 (by rw[e1];rfl),?_⟩;unfold World.shape?;rw[hh,e3];simp only[hsz,Nat.mul_one]
 subst hA;refine vW (C:=λv' w'=>v'=av g/\w'=S) k 4 [(9,true),(8,false),(7,true),(6,true),(5,true)] rfl kR ⟨_,_,Gives.sliceData (Lib.run_unsafeSliceData_row _ _ _ ⟨g,0,none⟩ l.length c oM),rfl,rfl⟩ kR kR (λv' S hv=>?_);obtain⟨rfl,rfl⟩:=hv;have d:=I;refine⟨sL,?_⟩
 refine vW (C:=λv' w'=>v'=str l/\w'=S.freeze ⟨g,0,none⟩ l.length) k 10 [] rfl kR ⟨_,_,Gives.unsafeStr (Lib.run_unsafeString_row (P:=Tryz.prog) _ _ _ _ 5 kR kR g c hsh l h0 q9 oM (λj x hj=>by
  obtain⟨ad,e1,hc⟩:=Ak.at_ oM;injection e1 with e1
  subst e1;exact hc j _ (by rw[zcr,hj];rfl))),rfl,rfl⟩ kR kR (λv' _ hv=>?_)
 obtain⟨rfl,rfl⟩:=hv;have d:=aI _ (λ_=>False) emp (VB (n:=l.length) hF0) (V5 (λ_=>id)) (λb hb=>hb.elim);refine⟨sT,?_⟩;refine Zb1 ?_;exact⟨rfl,d.aL.first.turn⟩
theorem Yr {b:Nat} {F:NP} (hp:(um b []).ok F w):aY Tryz.prog 182 [av b] w λr w'=>r=str []/\Turn F emp w w':=by
 obtain⟨a,v,ha,H⟩:=Sep.Mh (Sep.bW hp);have hv:=ha.2 rfl;subst hv;refine dI Tryz.func182 rfl rfl rfl rfl ?_;refine Zb1 ?_;refine Ds (λk S I=>?_);refine Zb4 ?_;refine Gm k 5 ?_;refine Zb4 ?_;refine vW (C:=λv' w'=>v'=.pointer none/\w'=S) k 4 [(9,true),(8,false),(7,true),(6,true),(5,true)] rfl kR ⟨_,_,Gives.sliceData (Lib.run_unsafeSliceData_nil _ _ _ 0 0),rfl,rfl⟩ kR kR (λv' S hv=>?_);obtain⟨rfl,rfl⟩:=hv;have c:=I;refine⟨sL,?_⟩;refine vW (C:=λv' w'=>v'=str []/\w'=S) k 10 [] rfl kR ⟨_,_,Gives.unsafeStr (Lib.run_unsafeString_none (P:=Tryz.prog) _ _ _ _ none),rfl,rfl⟩ kR kR (λv' _ hv=>?_);obtain⟨rfl,rfl⟩:=hv;have S:=c;refine⟨sT,?_⟩;refine Zb1 ?_;exact⟨rfl,⟨S.kept,λ_=>False,V5 (λ_=>id),λb hb=>hb.elim⟩⟩
theorem Bw {b:Nat} {l:L8} {F:NP} (hp:(um b l).ok F w) (hl:l.length<=100000000):aY Tryz.prog 182 [av b] w λr w'=>r=str l/\Turn F emp w w':=by
 by_cases h:l=[]
 .subst h;exact Yr hp
 exact VD hp hl h
end
end Go.Proofs.YtkfpleidaoaonaaGreatDoor
