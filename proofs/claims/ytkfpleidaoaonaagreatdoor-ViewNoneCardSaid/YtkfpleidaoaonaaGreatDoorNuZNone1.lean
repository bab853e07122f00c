/-
 A view looked at:is it none,its columns;walked.
-/
import Derived.Test.YtkfpleidaoaonaaGreatDoorNu1
import Derived.Test.YtkfpleidaoaonaaGreatDoorNu21
import Derived.Test.YtkfpleidaoaonaaGreatDoorNu3
import Derived.Test.YtkfpleidaoaonaaGreatDoorNu18
import Derived.Test.YtkfpleidaoaonaaGreatDoorNu26
import Derived.Test.YtkfpleidaoaonaaGreatDoorNu27
import Derived.Test.YtkfpleidaoaonaaGreatDoorNu22
set_option linter.unusedVariables false
set_option linter.unusedSimpArgs false
namespace Go.Proofs.YtkfpleidaoaonaaGreatDoor
open Go Go.Mw Go.Lib
set_option maxRecDepth 4000
attribute [local irreducible] FW FL FG FGn gu gy dh gH Qfn Gives
section
variable {w:Wd}
theorem YZ:aN Tryz.prog 51 [.pointer none] w λu w'=>u=.bool true/\Kept noB w w':=by
 have H:=Sep.aL w;refine eP Tryz.func51 rfl rfl rfl rfl ?_;refine Zb4 ?_;refine iN (t:=5) rfl (λNh=>?_) (λNh=>?_)
 .refine Zb2 ?_
  exact⟨rfl,H.kept⟩
 cases Nh
end
open Go.Proofs.Tryz
section
variable {w:Wd} {v:Value}
theorem afd:JO w (.pointer none):=λ_ _=>YZ
theorem abE {b:Nat} {E:Td} (hb:jo w b (nP (.slice none 0 0) (.slice none 0 0) (.slice none 0 0) 0 (.slice none 0 0) .nilIface 0 0 0 .nilFunc) E):JO w (aA b):=λw' hk=>OJ (hb.keep hk) (.inl ⟨rfl,rfl⟩)
theorem aio (h:JO w v):aN prog 22 [v] w λu w'=>u=.slice none 0 0/\Kept noB w w':=by
 have H:=Sep.aL w;refine eP func22 rfl rfl rfl rfl ?_;refine Zb2 ?_;refine aF H (h _ H.kept) (h:=λw4 H4 k3=>?_);refine Qn (Cd rfl (λQh=>?_) (λQh=>?_))
 .refine Zb1 ?_
  exact⟨rfl,H4.kept⟩
 exact Bool.noConfusion Qh
theorem aip (h:JO w v):aN prog 27 [v] w λu w'=>u=.slice none 0 0/\Kept noB w w':=by
 have H:=Sep.aL w;refine eP func27 rfl rfl rfl rfl ?_;refine Zb2 ?_;refine aF H (h _ H.kept) (h:=λw4 H4 k3=>?_);refine Qn (Cd rfl (λQh=>?_) (λQh=>?_))
 .refine Zb1 ?_
  exact⟨rfl,H4.kept⟩
 exact Bool.noConfusion Qh
theorem afe (h:JO w v) (x:Value):aN prog 24 [v,x] w λu w'=>u=.tuple #[.slice none 0 0,I 1]/\Kept noB w w':=by
 have H:=Sep.aL w;refine dS func24 rfl rfl rfl rfl ?_;refine Zb3 ?_;refine aF H (h _ H.kept) (h:=λw5 H5 k4=>?_);refine Qn (Cd rfl (λLB=>?_) (λLB=>?_))
 .refine Zb2 ?_
  exact⟨rfl,H5.kept⟩
 exact Bool.noConfusion LB
theorem Y0 {l:List aH} (hl:cZ w v l) (hT:fA w):aN prog 5 [v] w λv' w'=>v'=.bool true/\Kept noB w w':=by
 have H:=Sep.aL w;refine eP func5 rfl rfl rfl rfl ?_;refine Zb3 ?_;refine aP (λx:Nat×Value=>[(0,v),(3,x.2),(4,I x.1)]) (λx w'=>(x.1<=2/\JO w' x.2)/\Mw.Sep w noB [] w') (λx _=>2-x.1) (0,.pointer none) tR ⟨⟨zak _,afd⟩,H⟩ (λx τ w5 hI=>?_);obtain⟨i,pv⟩:=x;obtain⟨⟨hi,hnv⟩,H5⟩:=hI;dsimp only at hi hnv H5;have H0:=Sep.aL w5
 try simp only[dA,like,bB,bY]
 refine Za2 ?_;refine Qn (Cp rfl (λy8=>?_) (λy8=>?_))
 .have bX:i<2:=oM
  refine Zb2 ?_;refine dx H5 (rO (hl.keep H5.kept)) (h:=λx5 wa _ Ha kA=>?_);have hnv:=hnv.keep kA;refine aF Ha (afe hnv _) (h:=λwb Hb kA=>?_);have hnv:=hnv.keep kA;refine Zb9 ?_;refine aC (t:=21) rfl (λSa=>?_) (λSa=>?_)
  .exact aB Sa
  refine Zb4 ?_;refine aC (t:=25) rfl (λSb=>?_) (λSb=>?_)
  .exact aB Sb
  refine Zb1 ?_;refine aF Hb (aip hnv) (h:=λwc Hc kA=>?_);have hnv:=hnv.keep kA;refine Zb4 ?_;refine aC (t:=31) rfl (λSc=>?_) (λSc=>?_)
  .exact aB Sc
  refine Zb1 ?_;refine aF Hc (aio hnv) (h:=λwd Hd ka=>?_);refine Za3 ?_;refine Qn (Cp rfl (λIa=>?_) (λIa=>?_))
  .exact aB Ia
  refine Zb0 ?_;refine Vb (nP (.slice none 0 0) (.slice none 0 0) (.slice none 0 0) 0 (.slice none 0 0) .nilIface 0 0 0 .nilFunc) ?_;refine dz Hd (cs:=nP (.slice none 0 0) (.slice none 0 0) (.slice none 0 0) 0 (.slice none 0 0) .nilIface 0 0 0 .nilFunc) rfl (h:=λb8 we He kb=>?_);refine Zb2 ?_;refine Vc ((i+1:Nat):Int) ?_;refine Zb1 ?_;exact ak (i+1,aA b8) tR ⟨⟨dO,abE (He.obj At0)⟩,Sep.firsts (l:=[]) He⟩ dO
 refine Zb0 ?_;refine aF H5 (iH (hT.keep H5.kept)) (h:=λwf Hf kc=>?_);refine Zb1 ?_;exact⟨rfl,Hf.kept⟩
end
open Go.ChangeShapes Go.WideShapes Go.RowKit
section
variable {H:Type} {enc:Td×Value->H} {W:Wd} {r:Reach} {base:Nat} {v:Value} {d:DataW H} {ps:List MemPlace}
theorem GZ (hv:Value.okWide Tryz.prog W r base 27 v) (h:DataW.Trod enc Tryz.prog W 0 (λ_=>true) true 27 v d ps): ∃l:List aH,cZ W v l/\∀x∈l,bR x:=by
 obtain⟨A,c,q,rfl,h2,h3,h4,h5⟩:=qY (f:=av) (good:=λx:Value×Int=>(∃l,aM W x.1 aj 3 l/\jX l)/\fits x.2) (s:=2) Tryz.underlying27 kR (λ_=>rfl) (λn cs y hl hc=>xS hl hc) hv h;obtain⟨l,hr,hf⟩:=yK q h5;exact⟨l,⟨q,iO h2 h3 h4,hr⟩,hf⟩
end
end Go.Proofs.YtkfpleidaoaonaaGreatDoor
