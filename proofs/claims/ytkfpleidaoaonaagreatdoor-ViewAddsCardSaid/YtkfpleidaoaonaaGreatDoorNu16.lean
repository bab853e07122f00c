/-
 Sorting by a function:rows parted,walked.
-/
import Derived.Test.YtkfpleidaoaonaaGreatDoorNu1
import Derived.Test.YtkfpleidaoaonaaGreatDoorNu3
import Derived.Test.YtkfpleidaoaonaaGreatDoorNu15
import Derived.Sort.WalkC4
set_option linter.unusedVariables false
set_option linter.unusedSimpArgs false
namespace Go.Proofs.YtkfpleidaoaonaaGreatDoor
open Go Go.Mw Go.Lib Go.Sort Tryz
set_option maxRecDepth 4000
attribute [local irreducible] FW FL FG FGn gu gy dh gH Qfn Gives
section
variable {α:Type} [Inhabited α] {f:α->Int} {cf:α->α->Int} {w:Wd} {F:NP} {A:OA} {n c:Nat} {d₀:Array α} {fv:Value}
set_option maxHeartbeats 1000000 in
theorem U2 {a b p:Nat} (hp:(gM f A n c d₀).ok F w) (CQ:n=d₀.size) (hap:a<=p) (hpb:p<b) (hb:b<=n) (rU:n<=1000000) (qP:rJ prog fv f cf F w):
    aN prog 218 [.slice A n c,I a,I b,I p,fv] w λr w'=>r=I (partitionEqual (ltC cf) d₀ a b p).1/\n=(partitionEqual (ltC cf) d₀ a b p).2.size/\Turn F (gM f A n c (partitionEqual (ltC cf) d₀ a b p).2) w w':=by
  have H:=Sep.dZ hp;have hR:=rdI CQ H At0;obtain⟨res,ay⟩: ∃res,res=partitionEqual (ltC cf) d₀ a b p:=⟨_,rfl⟩;rw[<-ay];unfold partitionEqual at ay;refine Rl func218 rfl rfl rfl rfl ?_;refine Zb1 ?_;refine Ds (λEh w4 H4=>?_);refine mV ?_;refine FsI (λwa Ha=>?_);refine Zb1 ?_;refine FsI (λwb Hb=>?_);refine Zb1 ?_;refine Vc ((a+1:Nat):Int) ?_;refine Mv ?_;refine Vc ((b-1:Nat):Int) ?_;refine Zb2 ?_;refine aP (λx:Nat×Nat×Array α=>[(0,.slice A n c),(1,I a),(4,fv),(11,I x.1),(12,I x.2.1)]) (λx w'=>((n=x.2.2.size/\a<x.1/\x.1<=x.2.1+1/\x.2.1<n)/\partEqLoop (ltC cf) a x.1 x.2.1 x.2.2=res)/\Sep w F [gM f A n c x.2.2] w') (λx _=>x.2.1+1-x.1) (a+1,b-1,swp d₀ a p) tR ⟨⟨⟨by dsimp only;rw[swp_size];exact CQ,dO,dO,dO⟩,ay.symm⟩,Hb⟩ (λx τ wc hI=>?_);clear hR;obtain⟨i,j,d⟩:=x;obtain⟨⟨⟨hn,MP,LC,MQ⟩,hi⟩,Hc⟩:=hI;dsimp only at hn MP LC MQ hi Hc;have hR:=rdI hn Hc At0;obtain⟨i2,Bf⟩: ∃i2,i2=scanUp (λx=> !ltC cf d[a]! x) d j i:=⟨_,rfl⟩;have G9:=scanUp_ge (λx=> !ltC cf d[a]! x) d j i;rw[<-Bf]at G9;obtain⟨j2,Fe⟩: ∃j2,j2=scanDown (λx=>ltC cf d[a]! x) d i2 j:=⟨_,rfl⟩;have Ja:=scanDown_le (λx=>ltC cf d[a]! x) d i2 j;rw[<-Fe]at Ja;have iT:=Bf;have iU:=Fe
  try simp only[dA,like,bB,bY]
  refine Zb0 ?_;refine aP (λk:Nat=>[(0,.slice A n c),(1,I a),(4,fv),(11,I k),(12,I j)]) (λk w'=>(a<k/\k<=j+1/\scanUp (λx=> !ltC cf d[a]! x) d j k=i2)/\Sep w F [gM f A n c d] w') (λk _=>j+1-k) i tR ⟨⟨MP,LC,Bf.symm⟩,Hc⟩ (λk τ wd hI=>?_);obtain⟨⟨hak,hkj,nu⟩,Hd⟩:=hI
  try simp only[dA,like,bB]
  refine Zb0 ?_;refine Ds (λSa we He=>?_);refine Zb4 ?_;refine fP (t:=34) rfl (λSb=>?_) (λSb=>?_)
  . have Qm:k<=j:=oM
    refine Zb9 ?_;refine FcI (λwf Hf=>?_);refine Za3 ?_;refine dP Sa kR ?_;refine aU (Cp rfl (λIa=>?_) (λIa=>?_))
    . rw[scanUp_go _ _ _ _ Qm (by simp[ltC];have:=Ia;omega)]at nu
      refine Zb1 ?_;refine Vc ((k+1:Nat):Int) ?_;refine Zb1 ?_;exact ak (k+1) tR ⟨⟨oM,oM,nu⟩,Hf⟩ oM
    rw[scanUp_end _ _ _ _ (.inr (by simp[ltC];have:=Ia;omega))]at nu;subst nu;refine Zb0 ?_;refine aP (λm:Nat=>[(0,.slice A n c),(1,I a),(4,fv),(11,I k),(12,I m)]) (λm w'=>(m<=j/\scanDown (λx=>ltC cf d[a]! x) d k m=j2)/\Sep w F [gM f A n c d] w') (λm _=>m) j tR ⟨⟨zbf _,Fe.symm⟩,Hf⟩ (λm τ wg hI=>?_);obtain⟨⟨hmj,nY⟩,Hg⟩:=hI
    try simp only[dA,like,bB]
    refine Zb0 ?_;refine Ds (λSc wh Hh=>?_);refine Zb4 ?_;refine fP (t:=53) rfl (λSd=>?_) (λSd=>?_)
    . have LD:k<=m:=oM
      refine Zb9 ?_;refine FcI (λwi Hi=>?_);refine Za2 ?_;refine dP Sc kR ?_;refine aU (Cp rfl (λIb=>?_) (λIb=>?_))
      . rw[scanDown_go _ _ _ _ LD oM (by simp[ltC];have:=Ib;omega)]at nY
        refine Zb1 ?_;refine Vc ((m-1:Nat):Int) ?_;refine Zb1 ?_;exact ak (m-1) tR ⟨⟨oM,nY⟩,Hi⟩ oM
      rw[scanDown_end _ _ _ _ (.inr (by simp[ltC];have:=Ib;omega))]at nY;subst nY;refine Za3 ?_;refine Qn (Cp rfl (λIc=>?_) (λIc=>?_))
      . rw[partEq_break (ltC cf) a i j d iT iU oM]at hi
        refine Zb2 ?_;exact⟨by rw[<-hi];rfl,by rw[<-hi];exact hn,by rw[<-hi];exact Hi.turn⟩
      have qQ:k<=m:=oM;have bX:=scans_lt (ltC cf) a i j d oM iT iU oM;rw[partEq_go (ltC cf) a i j d iT iU oM]at hi;refine Zb0 ?_;refine Ds (λSe wj Hj=>?_);refine mV ?_;refine FsI (λwk Hk=>?_);refine Zb1 ?_;refine FsI (λwl Hl=>?_);refine Zb1 ?_;refine Vc ((k+1:Nat):Int) ?_;refine Zb2 ?_;refine Vc ((m-1:Nat):Int) ?_;refine Zb1 ?_;exact ak (k+1,m-1,swp d k m) tR ⟨⟨⟨by rw[swp_size];exact hn,dO,dO,dO⟩,hi⟩,Hl⟩ dO
    rw[scanDown_end _ _ _ _ (.inl oM)]at nY;subst nY;refine Za4 ?_;refine Qn (Cp rfl (λId=>?_) (λId=>?_))
    . rw[partEq_break (ltC cf) a i j d iT iU oM]at hi
      refine Zb2 ?_;exact⟨by rw[<-hi];rfl,by rw[<-hi];exact hn,by rw[<-hi];exact Hh.turn⟩
    have qQ:k<=m:=oM;have bX:=scans_lt (ltC cf) a i j d oM iT iU oM;rw[partEq_go (ltC cf) a i j d iT iU oM]at hi;refine Zb0 ?_;refine Ds (λSf wm Hm=>?_);refine mV ?_;refine FsI (λwn Hn=>?_);refine Zb1 ?_;refine FsI (λwo Ho=>?_);refine Zb1 ?_;refine Vc ((k+1:Nat):Int) ?_;refine Zb2 ?_;refine Vc ((m-1:Nat):Int) ?_;refine Zb1 ?_;exact ak (k+1,m-1,swp d k m) tR ⟨⟨⟨by rw[swp_size];exact hn,dO,dO,dO⟩,hi⟩,Ho⟩ dO
  rw[scanUp_end _ _ _ _ (.inl oM)]at nu;subst nu;refine Zb1 ?_;refine aP (λm:Nat=>[(0,.slice A n c),(1,I a),(4,fv),(11,I k),(12,I m)]) (λm w'=>(m<=j/\scanDown (λx=>ltC cf d[a]! x) d k m=j2)/\Sep w F [gM f A n c d] w') (λm _=>m) j tR ⟨⟨zbf _,Fe.symm⟩,He⟩ (λm τ wp hI=>?_);obtain⟨⟨hmj,nY⟩,Hp⟩:=hI
  try simp only[dA,like,bB]
  refine Zb0 ?_;refine Ds (λSg wq Hq=>?_);refine Zb4 ?_;refine fP (t:=53) rfl (λSh=>?_) (λSh=>?_)
  . have LD:k<=m:=oM
    refine Zb9 ?_;refine FcI (λwr Hr=>?_);refine Za2 ?_;refine dP Sg kR ?_;refine aU (Cp rfl (λIe=>?_) (λIe=>?_))
    . rw[scanDown_go _ _ _ _ LD oM (by simp[ltC];have:=Ie;omega)]at nY
      refine Zb1 ?_;refine Vc ((m-1:Nat):Int) ?_;refine Zb1 ?_;exact ak (m-1) tR ⟨⟨oM,nY⟩,Hr⟩ oM
    rw[scanDown_end _ _ _ _ (.inr (by simp[ltC];have:=Ie;omega))]at nY;subst nY;refine Za3 ?_;refine Qn (Cp rfl (λIf=>?_) (λIf=>?_))
    . rw[partEq_break (ltC cf) a i j d iT iU oM]at hi
      refine Zb2 ?_;exact⟨by rw[<-hi];rfl,by rw[<-hi];exact hn,by rw[<-hi];exact Hr.turn⟩
    have qQ:k<=m:=oM;have bX:=scans_lt (ltC cf) a i j d oM iT iU oM;rw[partEq_go (ltC cf) a i j d iT iU oM]at hi;refine Zb0 ?_;refine Ds (λSi ws Hs=>?_);refine mV ?_;refine FsI (λwt Ht=>?_);refine Zb1 ?_;refine FsI (λwu Hu=>?_);refine Zb1 ?_;refine Vc ((k+1:Nat):Int) ?_;refine Zb2 ?_;refine Vc ((m-1:Nat):Int) ?_;refine Zb1 ?_;exact ak (k+1,m-1,swp d k m) tR ⟨⟨⟨by rw[swp_size];exact hn,dO,dO,dO⟩,hi⟩,Hu⟩ dO
  rw[scanDown_end _ _ _ _ (.inl oM)]at nY;subst nY;refine Za4 ?_;refine Qn (Cp rfl (λIg=>?_) (λIg=>?_))
  . rw[partEq_break (ltC cf) a i j d iT iU oM]at hi
    refine Zb2 ?_;exact⟨by rw[<-hi];rfl,by rw[<-hi];exact hn,by rw[<-hi];exact Hq.turn⟩
  have qQ:k<=m:=oM;have bX:=scans_lt (ltC cf) a i j d oM iT iU oM;rw[partEq_go (ltC cf) a i j d iT iU oM]at hi;refine Zb0 ?_;refine Ds (λSj wv Hv=>?_);refine mV ?_;refine FsI (λww Hw=>?_);refine Zb1 ?_;refine FsI (λwx Hx=>?_);refine Zb1 ?_;refine Vc ((k+1:Nat):Int) ?_;refine Zb2 ?_;refine Vc ((m-1:Nat):Int) ?_;refine Zb1 ?_;exact ak (k+1,m-1,swp d k m) tR ⟨⟨⟨by rw[swp_size];exact hn,dO,dO,dO⟩,hi⟩,Hx⟩ dO
set_option maxHeartbeats 1000000 in
theorem acn {a b p:Nat} (hp:(gM f A n c d₀).ok F w) (CQ:n=d₀.size) (hap:a<=p) (hpb:p<b) (hb:b<=n) (rU:n<=1000000) (qP:rJ prog fv f cf F w):
    aN prog 219 [.slice A n c,I a,I b,I p,fv] w λr w'=>r=.tuple #[I (partition (ltC cf) d₀ a b p).1,.bool (partition (ltC cf) d₀ a b p).2.1]/\n=(partition (ltC cf) d₀ a b p).2.2.size/\Turn F (gM f A n c (partition (ltC cf) d₀ a b p).2.2) w w':=by
  have H:=Sep.dZ hp;have hR:=rdI CQ H At0;obtain⟨res,ay⟩: ∃res,res=partition (ltC cf) d₀ a b p:=⟨_,rfl⟩;rw[<-ay];unfold partition at ay;dsimp only at ay;refine Rl func219 rfl rfl rfl rfl ?_;refine Zb2 ?_;refine Ds (λRf w5 H5=>?_);refine mV ?_;refine FsI (λwa Ha=>?_);refine Zb1 ?_;have hn:n=(swp d₀ a p).size:=by rw[swp_size];exact CQ
  refine Xu Rf 15 _ (i:=p) (a:=d₀[a]!) (by rw[zei];exact CQ) Ha At0 (by rw[zei];omega) (h:=λwb Hb=>⟨sT,?_⟩);clear hR;obtain⟨d,hd⟩: ∃d,d=swp d₀ a p:=⟨_,rfl⟩;have Hb:Sep w F [gM f A n c d] wb:=by rw[hd];exact Hb
  rw[<-hd]at ay hn;have hR:=rdI hn Hb At0;obtain⟨i,hi⟩: ∃i,i=a+1:=⟨_,rfl⟩;obtain⟨j,hj⟩: ∃j,j=b-1:=⟨_,rfl⟩;rw[<-hi,<-hj]at ay;have MP:a<i:=oM;have LC:i<=j+1:=oM;have MQ:j<n:=oM;obtain⟨i2,Bf⟩: ∃i2,i2=scanUp (λx=>ltC cf x d[a]!) d j i:=⟨_,rfl⟩;have G9:=scanUp_ge (λx=>ltC cf x d[a]!) d j i;rw[<-Bf]at G9;obtain⟨j2,Fe⟩: ∃j2,j2=scanDown (λx=> !ltC cf x d[a]!) d i2 j:=⟨_,rfl⟩;have Ja:=scanDown_le (λx=> !ltC cf x d[a]!) d i2 j;rw[<-Fe]at Ja;have iT:=Bf;have iU:=Fe;rw[<-Bf,<-Fe]at ay;refine Zb1 ?_;refine Vc (i:Int) ?_;refine Mv ?_;refine Vc (j:Int) ?_;refine Zb2 ?_;refine aP (λk:Nat=>[(0,.slice A n c),(1,I a),(4,fv),(12,I k),(13,I j)]) (λk w'=>(a<k/\k<=j+1/\scanUp (λx=>ltC cf x d[a]!) d j k=i2)/\Sep w F [gM f A n c d] w') (λk _=>j+1-k) i tR ⟨⟨MP,LC,Bf.symm⟩,Hb⟩ (λk τ wc hI=>?_);obtain⟨⟨hak,hkj,nu⟩,Hc⟩:=hI
  try simp only[dA,like,bB,bY]
  refine Zb0 ?_;refine Ds (λSa wd Hd=>?_);refine Zb4 ?_;refine fP (t:=35) rfl (λSb=>?_) (λSb=>?_)
  . have Qm:k<=j:=oM
    refine Zb9 ?_;refine FcI (λwe He=>?_);refine Za2 ?_;refine dP Sa kR ?_;refine aU (Cp rfl (λIa=>?_) (λIa=>?_))
    . rw[scanUp_go _ _ _ _ Qm (by simp[ltC];have:=Ia;omega)]at nu
      refine Zb1 ?_;refine Vc ((k+1:Nat):Int) ?_;refine Zb1 ?_;exact ak (k+1) tR ⟨⟨oM,oM,nu⟩,He⟩ oM
    rw[scanUp_end _ _ _ _ (.inr (by simp[ltC];have:=Ia;omega))]at nu;subst nu;refine Zb0 ?_;refine aP (λm:Nat=>[(0,.slice A n c),(1,I a),(4,fv),(12,I k),(13,I m)]) (λm w'=>(m<=j/\scanDown (λx=> !ltC cf x d[a]!) d k m=j2)/\Sep w F [gM f A n c d] w') (λm _=>m) j tR ⟨⟨zbf _,Fe.symm⟩,He⟩ (λm τ wf hI=>?_);obtain⟨⟨hmj,nY⟩,Hf⟩:=hI
    try simp only[dA,like,bB]
    refine Zb0 ?_;refine Ds (λSc wg Hg=>?_);refine Zb4 ?_;refine fP (t:=53) rfl (λSd=>?_) (λSd=>?_)
    . have LD:k<=m:=oM
      refine Zb9 ?_;refine FcI (λwh Hh=>?_);refine Za3 ?_;refine dP Sc kR ?_;refine aU (Cp rfl (λIb=>?_) (λIb=>?_))
      . rw[scanDown_go _ _ _ _ LD oM (by simp[ltC];have:=Ib;omega)]at nY
        refine Zb1 ?_;refine Vc ((m-1:Nat):Int) ?_;refine Zb1 ?_;exact ak (m-1) tR ⟨⟨oM,nY⟩,Hh⟩ oM
      rw[scanDown_end _ _ _ _ (.inr (by simp[ltC];have:=Ib;omega))]at nY;subst nY;refine Za3 ?_;refine Qn (Cp rfl (λIc=>?_) (λIc=>?_))
      . rw[zac (show k>m from oM)]at ay
        refine Zb0 ?_;refine Ds (λSe wi Hi=>?_);refine mV ?_;refine FsI (λwj Hj=>?_);refine Zb1 ?_;refine FsI (λwk Hk=>?_);refine Zb3 ?_;exact⟨by rw[ay];rfl,by rw[ay];rw[swp_size];exact hn,by rw[ay];exact Hk.turn⟩
      rw[zab (show ¬k>m from oM)]at ay;have abT:=part_scans_lt (ltC cf) a i j d oM iT iU oM;refine Zb0 ?_;refine Ds (λSf wl Hl=>?_);refine mV ?_;refine FsI (λwm Hm=>?_);refine Zb1 ?_;refine FsI (λwn Hn=>?_);refine Zb1 ?_;refine Vc ((k+1:Nat):Int) ?_;refine Zb2 ?_;refine Vc ((m-1:Nat):Int) ?_;refine Zb1 ?_;obtain⟨r0,LG⟩: ∃r0,r0=partLoop (ltC cf) a (k+1) (m-1) (swp d k m):=⟨_,rfl⟩;rw[<-LG]at ay;refine aP (λx:Nat×Nat×Array α=>[(0,.slice A n c),(1,I a),(4,fv),(12,I x.1),(13,I x.2.1)]) (λx w'=>((n=x.2.2.size/\a<x.1/\x.1<=x.2.1+1/\x.2.1<n)/\partLoop (ltC cf) a x.1 x.2.1 x.2.2=r0)/\Sep w F [gM f A n c x.2.2] w') (λx _=>x.2.1+1-x.1) (k+1,m-1,swp d k m) tR ⟨⟨⟨by dsimp only;rw[swp_size];exact hn,dO,dO,dO⟩,LG.symm⟩,Hn⟩ (λx τ wo hI=>?_);clear hR hn iT iU G9 Ja hkj hmj hd hi hj MP LC MQ LG abT;obtain⟨i,j,d⟩:=x;obtain⟨⟨⟨hn,MP,LC,MQ⟩,hi⟩,Ho⟩:=hI;dsimp only at hn MP LC MQ hi Ho;have hR:=rdI hn Ho At0;obtain⟨i2,Bf⟩: ∃i2,i2=scanUp (λx=>ltC cf x d[a]!) d j i:=⟨_,rfl⟩;have G9:=scanUp_ge (λx=>ltC cf x d[a]!) d j i;rw[<-Bf]at G9;obtain⟨j2,Fe⟩: ∃j2,j2=scanDown (λx=> !ltC cf x d[a]!) d i2 j:=⟨_,rfl⟩;have Ja:=scanDown_le (λx=> !ltC cf x d[a]!) d i2 j;rw[<-Fe]at Ja;have iT:=Bf;have iU:=Fe
      try simp only[dA,like,bB]
      refine Zb0 ?_;refine aP (λk:Nat=>[(0,.slice A n c),(1,I a),(4,fv),(12,I k),(13,I j)]) (λk w'=>(a<k/\k<=j+1/\scanUp (λx=>ltC cf x d[a]!) d j k=i2)/\Sep w F [gM f A n c d] w') (λk _=>j+1-k) i tR ⟨⟨MP,LC,Bf.symm⟩,Ho⟩ (λk τ wp hI=>?_);obtain⟨⟨hak,hkj,nu⟩,Hp⟩:=hI
      try simp only[dA,like,bB]
      refine Zb0 ?_;refine Ds (λSg wq Hq=>?_);refine Zb4 ?_;refine fP (t:=108) rfl (λSh=>?_) (λSh=>?_)
      . have Qm:k<=j:=oM
        refine Zb9 ?_;refine FcI (λwr Hr=>?_);refine Za2 ?_;refine dP Sg kR ?_;refine aU (Cp rfl (λId=>?_) (λId=>?_))
        . rw[scanUp_go _ _ _ _ Qm (by simp[ltC];have:=Id;omega)]at nu
          refine Zb1 ?_;refine Vc ((k+1:Nat):Int) ?_;refine Zb1 ?_;exact ak (k+1) tR ⟨⟨oM,oM,nu⟩,Hr⟩ oM
        rw[scanUp_end _ _ _ _ (.inr (by simp[ltC];have:=Id;omega))]at nu;subst nu;refine Zb0 ?_;refine aP (λm:Nat=>[(0,.slice A n c),(1,I a),(4,fv),(12,I k),(13,I m)]) (λm w'=>(m<=j/\scanDown (λx=> !ltC cf x d[a]!) d k m=j2)/\Sep w F [gM f A n c d] w') (λm _=>m) j tR ⟨⟨zbf _,Fe.symm⟩,Hr⟩ (λm τ ws hI=>?_);obtain⟨⟨hmj,nY⟩,Hs⟩:=hI
        try simp only[dA,like,bB]
        refine Zb0 ?_;refine Ds (λSi wt Ht=>?_);refine Zb4 ?_;refine fP (t:=126) rfl (λSj=>?_) (λSj=>?_)
        . have LD:k<=m:=oM
          refine Zb9 ?_;refine FcI (λwu Hu=>?_);refine Za3 ?_;refine dP Si kR ?_;refine aU (Cp rfl (λIe=>?_) (λIe=>?_))
          . rw[scanDown_go _ _ _ _ LD oM (by simp[ltC];have:=Ie;omega)]at nY
            refine Zb1 ?_;refine Vc ((m-1:Nat):Int) ?_;refine Zb1 ?_;exact ak (m-1) tR ⟨⟨oM,nY⟩,Hu⟩ oM
          rw[scanDown_end _ _ _ _ (.inr (by simp[ltC];have:=Ie;omega))]at nY;subst nY;refine Za3 ?_;refine Qn (Cp rfl (λIf=>?_) (λIf=>?_))
          . rw[part_break (ltC cf) a i j d iT iU oM]at hi
            refine Zb0 ?_;refine Ds (λSl wv Hv=>?_);refine mV ?_;refine FsI (λww Hw=>?_);refine Zb1 ?_;refine FsI (λwx Hx=>?_);refine Zb3 ?_;exact⟨by rw[ay,<-hi];rfl,by rw[ay,<-hi];rw[swp_size];exact hn,by rw[ay,<-hi];exact Hx.turn⟩
          have qQ:k<=m:=oM;have bX:=part_scans_lt (ltC cf) a i j d oM iT iU oM;rw[part_go (ltC cf) a i j d iT iU oM]at hi;refine Zb0 ?_;refine Ds (λSm wy Hy=>?_);refine mV ?_;refine FsI (λwz Hz=>?_);refine Zb1 ?_;refine FsI (λwD HA=>?_);refine Zb1 ?_;refine Vc ((k+1:Nat):Int) ?_;refine Zb2 ?_;refine Vc ((m-1:Nat):Int) ?_;refine Zb1 ?_;exact ak (k+1,m-1,swp d k m) tR ⟨⟨⟨by rw[swp_size];exact hn,dO,dO,dO⟩,hi⟩,HA⟩ dO
        rw[scanDown_end _ _ _ _ (.inl oM)]at nY;subst nY;refine Za4 ?_;refine Qn (Cp rfl (λIg=>?_) (λIg=>?_))
        . rw[part_break (ltC cf) a i j d iT iU oM]at hi
          refine Zb0 ?_;refine Ds (λSn wE HB=>?_);refine mV ?_;refine FsI (λwF HC=>?_);refine Zb1 ?_;refine FsI (λwG HD=>?_);refine Zb3 ?_;exact⟨by rw[ay,<-hi];rfl,by rw[ay,<-hi];rw[swp_size];exact hn,by rw[ay,<-hi];exact HD.turn⟩
        have qQ:k<=m:=oM;have bX:=part_scans_lt (ltC cf) a i j d oM iT iU oM;rw[part_go (ltC cf) a i j d iT iU oM]at hi;refine Zb0 ?_;refine Ds (λSo wH HE=>?_);refine mV ?_;refine FsI (λwI HF=>?_);refine Zb1 ?_;refine FsI (λwJ HG=>?_);refine Zb1 ?_;refine Vc ((k+1:Nat):Int) ?_;refine Zb2 ?_;refine Vc ((m-1:Nat):Int) ?_;refine Zb1 ?_;exact ak (k+1,m-1,swp d k m) tR ⟨⟨⟨by rw[swp_size];exact hn,dO,dO,dO⟩,hi⟩,HG⟩ dO
      rw[scanUp_end _ _ _ _ (.inl oM)]at nu;subst nu;refine Zb1 ?_;refine aP (λm:Nat=>[(0,.slice A n c),(1,I a),(4,fv),(12,I k),(13,I m)]) (λm w'=>(m<=j/\scanDown (λx=> !ltC cf x d[a]!) d k m=j2)/\Sep w F [gM f A n c d] w') (λm _=>m) j tR ⟨⟨zbf _,Fe.symm⟩,Hq⟩ (λm τ wK hI=>?_);obtain⟨⟨hmj,nY⟩,HH⟩:=hI
      try simp only[dA,like,bB]
      refine Zb0 ?_;refine Ds (λSp wL HI=>?_);refine Zb4 ?_;refine fP (t:=126) rfl (λSq=>?_) (λSq=>?_)
      . have LD:k<=m:=oM
        refine Zb9 ?_;refine FcI (λwM HJ=>?_);refine Za3 ?_;refine dP Sp kR ?_;refine aU (Cp rfl (λIh=>?_) (λIh=>?_))
        . rw[scanDown_go _ _ _ _ LD oM (by simp[ltC];have:=Ih;omega)]at nY
          refine Zb1 ?_;refine Vc ((m-1:Nat):Int) ?_;refine Zb1 ?_;exact ak (m-1) tR ⟨⟨oM,nY⟩,HJ⟩ oM
        rw[scanDown_end _ _ _ _ (.inr (by simp[ltC];have:=Ih;omega))]at nY;subst nY;refine Za3 ?_;refine Qn (Cp rfl (λIi=>?_) (λIi=>?_))
        . rw[part_break (ltC cf) a i j d iT iU oM]at hi
          refine Zb0 ?_;refine Ds (λSs wN HK=>?_);refine mV ?_;refine FsI (λwO HL=>?_);refine Zb1 ?_;refine FsI (λwP HM=>?_);refine Zb3 ?_;exact⟨by rw[ay,<-hi];rfl,by rw[ay,<-hi];rw[swp_size];exact hn,by rw[ay,<-hi];exact HM.turn⟩
        have qQ:k<=m:=oM;have bX:=part_scans_lt (ltC cf) a i j d oM iT iU oM;rw[part_go (ltC cf) a i j d iT iU oM]at hi;refine Zb0 ?_;refine Ds (λSu wQ HN=>?_);refine mV ?_;refine FsI (λwR HO=>?_);refine Zb1 ?_;refine FsI (λwS HQ=>?_);refine Zb1 ?_;refine Vc ((k+1:Nat):Int) ?_;refine Zb2 ?_;refine Vc ((m-1:Nat):Int) ?_;refine Zb1 ?_;exact ak (k+1,m-1,swp d k m) tR ⟨⟨⟨by rw[swp_size];exact hn,dO,dO,dO⟩,hi⟩,HQ⟩ dO
      rw[scanDown_end _ _ _ _ (.inl oM)]at nY;subst nY;refine Za4 ?_;refine Qn (Cp rfl (λIj=>?_) (λIj=>?_))
      . rw[part_break (ltC cf) a i j d iT iU oM]at hi
        refine Zb0 ?_;refine Ds (λSv wT HR=>?_);refine mV ?_;refine FsI (λwU HS=>?_);refine Zb1 ?_;refine FsI (λwV HT=>?_);refine Zb3 ?_;exact⟨by rw[ay,<-hi];rfl,by rw[ay,<-hi];rw[swp_size];exact hn,by rw[ay,<-hi];exact HT.turn⟩
      have qQ:k<=m:=oM;have bX:=part_scans_lt (ltC cf) a i j d oM iT iU oM;rw[part_go (ltC cf) a i j d iT iU oM]at hi;refine Zb0 ?_;refine Ds (λSw wW HU=>?_);refine mV ?_;refine FsI (λwX HV=>?_);refine Zb1 ?_;refine FsI (λwY HW=>?_);refine Zb1 ?_;refine Vc ((k+1:Nat):Int) ?_;refine Zb2 ?_;refine Vc ((m-1:Nat):Int) ?_;refine Zb1 ?_;exact ak (k+1,m-1,swp d k m) tR ⟨⟨⟨by rw[swp_size];exact hn,dO,dO,dO⟩,hi⟩,HW⟩ dO
    rw[scanDown_end _ _ _ _ (.inl oM)]at nY;subst nY;refine Za4 ?_;refine Qn (Cp rfl (λIk=>?_) (λIk=>?_))
    . rw[zac (show k>m from oM)]at ay
      refine Zb0 ?_;refine Ds (λSx wZ HX=>?_);refine mV ?_;refine FsI (λw_ HY=>?_);refine Zb1 ?_;refine FsI (λw381 HZ=>?_);refine Zb3 ?_;exact⟨by rw[ay];rfl,by rw[ay];rw[swp_size];exact hn,by rw[ay];exact HZ.turn⟩
    rw[zab (show ¬k>m from oM)]at ay;have abT:=part_scans_lt (ltC cf) a i j d oM iT iU oM;refine Zb0 ?_;refine Ds (λSy w389 H_=>?_);refine mV ?_;refine FsI (λw396 H396=>?_);refine Zb1 ?_;refine FsI (λw399 H399=>?_);refine Zb1 ?_;refine Vc ((k+1:Nat):Int) ?_;refine Zb2 ?_;refine Vc ((m-1:Nat):Int) ?_;refine Zb1 ?_;obtain⟨r0,LG⟩: ∃r0,r0=partLoop (ltC cf) a (k+1) (m-1) (swp d k m):=⟨_,rfl⟩;rw[<-LG]at ay;refine aP (λx:Nat×Nat×Array α=>[(0,.slice A n c),(1,I a),(4,fv),(12,I x.1),(13,I x.2.1)]) (λx w'=>((n=x.2.2.size/\a<x.1/\x.1<=x.2.1+1/\x.2.1<n)/\partLoop (ltC cf) a x.1 x.2.1 x.2.2=r0)/\Sep w F [gM f A n c x.2.2] w') (λx _=>x.2.1+1-x.1) (k+1,m-1,swp d k m) tR ⟨⟨⟨by dsimp only;rw[swp_size];exact hn,dO,dO,dO⟩,LG.symm⟩,H399⟩ (λx τ w407 hI=>?_);clear hR hn iT iU G9 Ja hkj hmj hd hi hj MP LC MQ LG abT;obtain⟨i,j,d⟩:=x;obtain⟨⟨⟨hn,MP,LC,MQ⟩,hi⟩,H407⟩:=hI;dsimp only at hn MP LC MQ hi H407;have hR:=rdI hn H407 At0;obtain⟨i2,Bf⟩: ∃i2,i2=scanUp (λx=>ltC cf x d[a]!) d j i:=⟨_,rfl⟩;have G9:=scanUp_ge (λx=>ltC cf x d[a]!) d j i;rw[<-Bf]at G9;obtain⟨j2,Fe⟩: ∃j2,j2=scanDown (λx=> !ltC cf x d[a]!) d i2 j:=⟨_,rfl⟩;have Ja:=scanDown_le (λx=> !ltC cf x d[a]!) d i2 j;rw[<-Fe]at Ja;have iT:=Bf;have iU:=Fe
    try simp only[dA,like,bB]
    refine Zb0 ?_;refine aP (λk:Nat=>[(0,.slice A n c),(1,I a),(4,fv),(12,I k),(13,I j)]) (λk w'=>(a<k/\k<=j+1/\scanUp (λx=>ltC cf x d[a]!) d j k=i2)/\Sep w F [gM f A n c d] w') (λk _=>j+1-k) i tR ⟨⟨MP,LC,Bf.symm⟩,H407⟩ (λk τ w409 hI=>?_);obtain⟨⟨hak,hkj,nu⟩,H409⟩:=hI
    try simp only[dA,like,bB]
    refine Zb0 ?_;refine Ds (λSz w412 H412=>?_);refine Zb4 ?_;refine fP (t:=108) rfl (λSA=>?_) (λSA=>?_)
    . have Qm:k<=j:=oM
      refine Zb9 ?_;refine FcI (λw421 H421=>?_);refine Za2 ?_;refine dP Sz kR ?_;refine aU (Cp rfl (λIl=>?_) (λIl=>?_))
      . rw[scanUp_go _ _ _ _ Qm (by simp[ltC];have:=Il;omega)]at nu
        refine Zb1 ?_;refine Vc ((k+1:Nat):Int) ?_;refine Zb1 ?_;exact ak (k+1) tR ⟨⟨oM,oM,nu⟩,H421⟩ oM
      rw[scanUp_end _ _ _ _ (.inr (by simp[ltC];have:=Il;omega))]at nu;subst nu;refine Zb0 ?_;refine aP (λm:Nat=>[(0,.slice A n c),(1,I a),(4,fv),(12,I k),(13,I m)]) (λm w'=>(m<=j/\scanDown (λx=> !ltC cf x d[a]!) d k m=j2)/\Sep w F [gM f A n c d] w') (λm _=>m) j tR ⟨⟨zbf _,Fe.symm⟩,H421⟩ (λm τ w432 hI=>?_);obtain⟨⟨hmj,nY⟩,H432⟩:=hI
      try simp only[dA,like,bB]
      refine Zb0 ?_;refine Ds (λSB w435 H435=>?_);refine Zb4 ?_;refine fP (t:=126) rfl (λSC=>?_) (λSC=>?_)
      . have LD:k<=m:=oM
        refine Zb9 ?_;refine FcI (λw444 H444=>?_);refine Za3 ?_;refine dP SB kR ?_;refine aU (Cp rfl (λIm=>?_) (λIm=>?_))
        . rw[scanDown_go _ _ _ _ LD oM (by simp[ltC];have:=Im;omega)]at nY
          refine Zb1 ?_;refine Vc ((m-1:Nat):Int) ?_;refine Zb1 ?_;exact ak (m-1) tR ⟨⟨oM,nY⟩,H444⟩ oM
        rw[scanDown_end _ _ _ _ (.inr (by simp[ltC];have:=Im;omega))]at nY;subst nY;refine Za3 ?_;refine Qn (Cp rfl (λIn=>?_) (λIn=>?_))
        . rw[part_break (ltC cf) a i j d iT iU oM]at hi
          refine Zb0 ?_;refine Ds (λSD w462 H462=>?_);refine mV ?_;refine FsI (λw469 H469=>?_);refine Zb1 ?_;refine FsI (λw472 H472=>?_);refine Zb3 ?_;exact⟨by rw[ay,<-hi];rfl,by rw[ay,<-hi];rw[swp_size];exact hn,by rw[ay,<-hi];exact H472.turn⟩
        have qQ:k<=m:=oM;have bX:=part_scans_lt (ltC cf) a i j d oM iT iU oM;rw[part_go (ltC cf) a i j d iT iU oM]at hi;refine Zb0 ?_;refine Ds (λSE w480 H480=>?_);refine mV ?_;refine FsI (λw487 H487=>?_);refine Zb1 ?_;refine FsI (λw490 H490=>?_);refine Zb1 ?_;refine Vc ((k+1:Nat):Int) ?_;refine Zb2 ?_;refine Vc ((m-1:Nat):Int) ?_;refine Zb1 ?_;exact ak (k+1,m-1,swp d k m) tR ⟨⟨⟨by rw[swp_size];exact hn,dO,dO,dO⟩,hi⟩,H490⟩ dO
      rw[scanDown_end _ _ _ _ (.inl oM)]at nY;subst nY;refine Za4 ?_;refine Qn (Cp rfl (λIo=>?_) (λIo=>?_))
      . rw[part_break (ltC cf) a i j d iT iU oM]at hi
        refine Zb0 ?_;refine Ds (λSF w507 H507=>?_);refine mV ?_;refine FsI (λw514 H514=>?_);refine Zb1 ?_;refine FsI (λw517 H517=>?_);refine Zb3 ?_;exact⟨by rw[ay,<-hi];rfl,by rw[ay,<-hi];rw[swp_size];exact hn,by rw[ay,<-hi];exact H517.turn⟩
      have qQ:k<=m:=oM;have bX:=part_scans_lt (ltC cf) a i j d oM iT iU oM;rw[part_go (ltC cf) a i j d iT iU oM]at hi;refine Zb0 ?_;refine Ds (λSG w525 H525=>?_);refine mV ?_;refine FsI (λw532 H532=>?_);refine Zb1 ?_;refine FsI (λw535 H535=>?_);refine Zb1 ?_;refine Vc ((k+1:Nat):Int) ?_;refine Zb2 ?_;refine Vc ((m-1:Nat):Int) ?_;refine Zb1 ?_;exact ak (k+1,m-1,swp d k m) tR ⟨⟨⟨by rw[swp_size];exact hn,dO,dO,dO⟩,hi⟩,H535⟩ dO
    rw[scanUp_end _ _ _ _ (.inl oM)]at nu;subst nu;refine Zb1 ?_;refine aP (λm:Nat=>[(0,.slice A n c),(1,I a),(4,fv),(12,I k),(13,I m)]) (λm w'=>(m<=j/\scanDown (λx=> !ltC cf x d[a]!) d k m=j2)/\Sep w F [gM f A n c d] w') (λm _=>m) j tR ⟨⟨zbf _,Fe.symm⟩,H412⟩ (λm τ w546 hI=>?_);obtain⟨⟨hmj,nY⟩,H546⟩:=hI
    try simp only[dA,like,bB]
    refine Zb0 ?_;refine Ds (λSH w549 H549=>?_);refine Zb4 ?_;refine fP (t:=126) rfl (λSI=>?_) (λSI=>?_)
    . have LD:k<=m:=oM
      refine Zb9 ?_;refine FcI (λw558 H558=>?_);refine Za3 ?_;refine dP SH kR ?_;refine aU (Cp rfl (λIp=>?_) (λIp=>?_))
      . rw[scanDown_go _ _ _ _ LD oM (by simp[ltC];have:=Ip;omega)]at nY
        refine Zb1 ?_;refine Vc ((m-1:Nat):Int) ?_;refine Zb1 ?_;exact ak (m-1) tR ⟨⟨oM,nY⟩,H558⟩ oM
      rw[scanDown_end _ _ _ _ (.inr (by simp[ltC];have:=Ip;omega))]at nY;subst nY;refine Za3 ?_;refine Qn (Cp rfl (λIq=>?_) (λIq=>?_))
      . rw[part_break (ltC cf) a i j d iT iU oM]at hi
        refine Zb0 ?_;refine Ds (λSJ w576 H576=>?_);refine mV ?_;refine FsI (λw583 H583=>?_);refine Zb1 ?_;refine FsI (λw586 H586=>?_);refine Zb3 ?_;exact⟨by rw[ay,<-hi];rfl,by rw[ay,<-hi];rw[swp_size];exact hn,by rw[ay,<-hi];exact H586.turn⟩
      have qQ:k<=m:=oM;have bX:=part_scans_lt (ltC cf) a i j d oM iT iU oM;rw[part_go (ltC cf) a i j d iT iU oM]at hi;refine Zb0 ?_;refine Ds (λSK w594 H594=>?_);refine mV ?_;refine FsI (λw601 H601=>?_);refine Zb1 ?_;refine FsI (λw604 H604=>?_);refine Zb1 ?_;refine Vc ((k+1:Nat):Int) ?_;refine Zb2 ?_;refine Vc ((m-1:Nat):Int) ?_;refine Zb1 ?_;exact ak (k+1,m-1,swp d k m) tR ⟨⟨⟨by rw[swp_size];exact hn,dO,dO,dO⟩,hi⟩,H604⟩ dO
    rw[scanDown_end _ _ _ _ (.inl oM)]at nY;subst nY;refine Za4 ?_;refine Qn (Cp rfl (λIr=>?_) (λIr=>?_))
    . rw[part_break (ltC cf) a i j d iT iU oM]at hi
      refine Zb0 ?_;refine Ds (λSL w621 H621=>?_);refine mV ?_;refine FsI (λw628 H628=>?_);refine Zb1 ?_;refine FsI (λw631 H631=>?_);refine Zb3 ?_;exact⟨by rw[ay,<-hi];rfl,by rw[ay,<-hi];rw[swp_size];exact hn,by rw[ay,<-hi];exact H631.turn⟩
    have qQ:k<=m:=oM;have bX:=part_scans_lt (ltC cf) a i j d oM iT iU oM;rw[part_go (ltC cf) a i j d iT iU oM]at hi;refine Zb0 ?_;refine Ds (λSM w639 H639=>?_);refine mV ?_;refine FsI (λw646 H646=>?_);refine Zb1 ?_;refine FsI (λw649 H649=>?_);refine Zb1 ?_;refine Vc ((k+1:Nat):Int) ?_;refine Zb2 ?_;refine Vc ((m-1:Nat):Int) ?_;refine Zb1 ?_;exact ak (k+1,m-1,swp d k m) tR ⟨⟨⟨by rw[swp_size];exact hn,dO,dO,dO⟩,hi⟩,H649⟩ dO
  rw[scanUp_end _ _ _ _ (.inl oM)]at nu;subst nu;refine Zb1 ?_;refine aP (λm:Nat=>[(0,.slice A n c),(1,I a),(4,fv),(12,I k),(13,I m)]) (λm w'=>(m<=j/\scanDown (λx=> !ltC cf x d[a]!) d k m=j2)/\Sep w F [gM f A n c d] w') (λm _=>m) j tR ⟨⟨zbf _,Fe.symm⟩,Hd⟩ (λm τ w660 hI=>?_);obtain⟨⟨hmj,nY⟩,H660⟩:=hI
  try simp only[dA,like,bB]
  refine Zb0 ?_;refine Ds (λSN w663 H663=>?_);refine Zb4 ?_;refine fP (t:=53) rfl (λSO=>?_) (λSO=>?_)
  . have LD:k<=m:=oM
    refine Zb9 ?_;refine FcI (λw672 H672=>?_);refine Za3 ?_;refine dP SN kR ?_;refine aU (Cp rfl (λIs=>?_) (λIs=>?_))
    . rw[scanDown_go _ _ _ _ LD oM (by simp[ltC];have:=Is;omega)]at nY
      refine Zb1 ?_;refine Vc ((m-1:Nat):Int) ?_;refine Zb1 ?_;exact ak (m-1) tR ⟨⟨oM,nY⟩,H672⟩ oM
    rw[scanDown_end _ _ _ _ (.inr (by simp[ltC];have:=Is;omega))]at nY;subst nY;refine Za3 ?_;refine Qn (Cp rfl (λIt=>?_) (λIt=>?_))
    . rw[zac (show k>m from oM)]at ay
      refine Zb0 ?_;refine Ds (λSP w690 H690=>?_);refine mV ?_;refine FsI (λw697 H697=>?_);refine Zb1 ?_;refine FsI (λw700 H700=>?_);refine Zb3 ?_;exact⟨by rw[ay];rfl,by rw[ay];rw[swp_size];exact hn,by rw[ay];exact H700.turn⟩
    rw[zab (show ¬k>m from oM)]at ay;have abT:=part_scans_lt (ltC cf) a i j d oM iT iU oM;refine Zb0 ?_;refine Ds (λSQ w708 H708=>?_);refine mV ?_;refine FsI (λw715 H715=>?_);refine Zb1 ?_;refine FsI (λw718 H718=>?_);refine Zb1 ?_;refine Vc ((k+1:Nat):Int) ?_;refine Zb2 ?_;refine Vc ((m-1:Nat):Int) ?_;refine Zb1 ?_;obtain⟨r0,LG⟩: ∃r0,r0=partLoop (ltC cf) a (k+1) (m-1) (swp d k m):=⟨_,rfl⟩;rw[<-LG]at ay;refine aP (λx:Nat×Nat×Array α=>[(0,.slice A n c),(1,I a),(4,fv),(12,I x.1),(13,I x.2.1)]) (λx w'=>((n=x.2.2.size/\a<x.1/\x.1<=x.2.1+1/\x.2.1<n)/\partLoop (ltC cf) a x.1 x.2.1 x.2.2=r0)/\Sep w F [gM f A n c x.2.2] w') (λx _=>x.2.1+1-x.1) (k+1,m-1,swp d k m) tR ⟨⟨⟨by dsimp only;rw[swp_size];exact hn,dO,dO,dO⟩,LG.symm⟩,H718⟩ (λx τ w726 hI=>?_);clear hR hn iT iU G9 Ja hkj hmj hd hi hj MP LC MQ LG abT;obtain⟨i,j,d⟩:=x;obtain⟨⟨⟨hn,MP,LC,MQ⟩,hi⟩,H726⟩:=hI;dsimp only at hn MP LC MQ hi H726;have hR:=rdI hn H726 At0;obtain⟨i2,Bf⟩: ∃i2,i2=scanUp (λx=>ltC cf x d[a]!) d j i:=⟨_,rfl⟩;have G9:=scanUp_ge (λx=>ltC cf x d[a]!) d j i;rw[<-Bf]at G9;obtain⟨j2,Fe⟩: ∃j2,j2=scanDown (λx=> !ltC cf x d[a]!) d i2 j:=⟨_,rfl⟩;have Ja:=scanDown_le (λx=> !ltC cf x d[a]!) d i2 j;rw[<-Fe]at Ja;have iT:=Bf;have iU:=Fe
    try simp only[dA,like,bB]
    refine Zb0 ?_;refine aP (λk:Nat=>[(0,.slice A n c),(1,I a),(4,fv),(12,I k),(13,I j)]) (λk w'=>(a<k/\k<=j+1/\scanUp (λx=>ltC cf x d[a]!) d j k=i2)/\Sep w F [gM f A n c d] w') (λk _=>j+1-k) i tR ⟨⟨MP,LC,Bf.symm⟩,H726⟩ (λk τ w728 hI=>?_);obtain⟨⟨hak,hkj,nu⟩,H728⟩:=hI
    try simp only[dA,like,bB]
    refine Zb0 ?_;refine Ds (λSR w731 H731=>?_);refine Zb4 ?_;refine fP (t:=108) rfl (λSS=>?_) (λSS=>?_)
    . have Qm:k<=j:=oM
      refine Zb9 ?_;refine FcI (λw740 H740=>?_);refine Za2 ?_;refine dP SR kR ?_;refine aU (Cp rfl (λIu=>?_) (λIu=>?_))
      . rw[scanUp_go _ _ _ _ Qm (by simp[ltC];have:=Iu;omega)]at nu
        refine Zb1 ?_;refine Vc ((k+1:Nat):Int) ?_;refine Zb1 ?_;exact ak (k+1) tR ⟨⟨oM,oM,nu⟩,H740⟩ oM
      rw[scanUp_end _ _ _ _ (.inr (by simp[ltC];have:=Iu;omega))]at nu;subst nu;refine Zb0 ?_;refine aP (λm:Nat=>[(0,.slice A n c),(1,I a),(4,fv),(12,I k),(13,I m)]) (λm w'=>(m<=j/\scanDown (λx=> !ltC cf x d[a]!) d k m=j2)/\Sep w F [gM f A n c d] w') (λm _=>m) j tR ⟨⟨zbf _,Fe.symm⟩,H740⟩ (λm τ w751 hI=>?_);obtain⟨⟨hmj,nY⟩,H751⟩:=hI
      try simp only[dA,like,bB]
      refine Zb0 ?_;refine Ds (λST w754 H754=>?_);refine Zb4 ?_;refine fP (t:=126) rfl (λSU=>?_) (λSU=>?_)
      . have LD:k<=m:=oM
        refine Zb9 ?_;refine FcI (λw763 H763=>?_);refine Za3 ?_;refine dP ST kR ?_;refine aU (Cp rfl (λIv=>?_) (λIv=>?_))
        . rw[scanDown_go _ _ _ _ LD oM (by simp[ltC];have:=Iv;omega)]at nY
          refine Zb1 ?_;refine Vc ((m-1:Nat):Int) ?_;refine Zb1 ?_;exact ak (m-1) tR ⟨⟨oM,nY⟩,H763⟩ oM
        rw[scanDown_end _ _ _ _ (.inr (by simp[ltC];have:=Iv;omega))]at nY;subst nY;refine Za3 ?_;refine Qn (Cp rfl (λIw=>?_) (λIw=>?_))
        . rw[part_break (ltC cf) a i j d iT iU oM]at hi
          refine Zb0 ?_;refine Ds (λSV w781 H781=>?_);refine mV ?_;refine FsI (λw788 H788=>?_);refine Zb1 ?_;refine FsI (λw791 H791=>?_);refine Zb3 ?_;exact⟨by rw[ay,<-hi];rfl,by rw[ay,<-hi];rw[swp_size];exact hn,by rw[ay,<-hi];exact H791.turn⟩
        have qQ:k<=m:=oM;have bX:=part_scans_lt (ltC cf) a i j d oM iT iU oM;rw[part_go (ltC cf) a i j d iT iU oM]at hi;refine Zb0 ?_;refine Ds (λSW w799 H799=>?_);refine mV ?_;refine FsI (λw806 H806=>?_);refine Zb1 ?_;refine FsI (λw809 H809=>?_);refine Zb1 ?_;refine Vc ((k+1:Nat):Int) ?_;refine Zb2 ?_;refine Vc ((m-1:Nat):Int) ?_;refine Zb1 ?_;exact ak (k+1,m-1,swp d k m) tR ⟨⟨⟨by rw[swp_size];exact hn,dO,dO,dO⟩,hi⟩,H809⟩ dO
      rw[scanDown_end _ _ _ _ (.inl oM)]at nY;subst nY;refine Za4 ?_;refine Qn (Cp rfl (λIx=>?_) (λIx=>?_))
      . rw[part_break (ltC cf) a i j d iT iU oM]at hi
        refine Zb0 ?_;refine Ds (λSX w826 H826=>?_);refine mV ?_;refine FsI (λw833 H833=>?_);refine Zb1 ?_;refine FsI (λw836 H836=>?_);refine Zb3 ?_;exact⟨by rw[ay,<-hi];rfl,by rw[ay,<-hi];rw[swp_size];exact hn,by rw[ay,<-hi];exact H836.turn⟩
      have qQ:k<=m:=oM;have bX:=part_scans_lt (ltC cf) a i j d oM iT iU oM;rw[part_go (ltC cf) a i j d iT iU oM]at hi;refine Zb0 ?_;refine Ds (λSY w844 H844=>?_);refine mV ?_;refine FsI (λw851 H851=>?_);refine Zb1 ?_;refine FsI (λw854 H854=>?_);refine Zb1 ?_;refine Vc ((k+1:Nat):Int) ?_;refine Zb2 ?_;refine Vc ((m-1:Nat):Int) ?_;refine Zb1 ?_;exact ak (k+1,m-1,swp d k m) tR ⟨⟨⟨by rw[swp_size];exact hn,dO,dO,dO⟩,hi⟩,H854⟩ dO
    rw[scanUp_end _ _ _ _ (.inl oM)]at nu;subst nu;refine Zb1 ?_;refine aP (λm:Nat=>[(0,.slice A n c),(1,I a),(4,fv),(12,I k),(13,I m)]) (λm w'=>(m<=j/\scanDown (λx=> !ltC cf x d[a]!) d k m=j2)/\Sep w F [gM f A n c d] w') (λm _=>m) j tR ⟨⟨zbf _,Fe.symm⟩,H731⟩ (λm τ w865 hI=>?_);obtain⟨⟨hmj,nY⟩,H865⟩:=hI
    try simp only[dA,like,bB]
    refine Zb0 ?_;refine Ds (λSZ w868 H868=>?_);refine Zb4 ?_;refine fP (t:=126) rfl (λS_=>?_) (λS_=>?_)
    . have LD:k<=m:=oM
      refine Zb9 ?_;refine FcI (λw877 H877=>?_);refine Za3 ?_;refine dP SZ kR ?_;refine aU (Cp rfl (λIy=>?_) (λIy=>?_))
      . rw[scanDown_go _ _ _ _ LD oM (by simp[ltC];have:=Iy;omega)]at nY
        refine Zb1 ?_;refine Vc ((m-1:Nat):Int) ?_;refine Zb1 ?_;exact ak (m-1) tR ⟨⟨oM,nY⟩,H877⟩ oM
      rw[scanDown_end _ _ _ _ (.inr (by simp[ltC];have:=Iy;omega))]at nY;subst nY;refine Za3 ?_;refine Qn (Cp rfl (λIz=>?_) (λIz=>?_))
      . rw[part_break (ltC cf) a i j d iT iU oM]at hi
        refine Zb0 ?_;refine Ds (λaru w895 H895=>?_);refine mV ?_;refine FsI (λw902 H902=>?_);refine Zb1 ?_;refine FsI (λw905 H905=>?_);refine Zb3 ?_;exact⟨by rw[ay,<-hi];rfl,by rw[ay,<-hi];rw[swp_size];exact hn,by rw[ay,<-hi];exact H905.turn⟩
      have qQ:k<=m:=oM;have bX:=part_scans_lt (ltC cf) a i j d oM iT iU oM;rw[part_go (ltC cf) a i j d iT iU oM]at hi;refine Zb0 ?_;refine Ds (λarv w913 H913=>?_);refine mV ?_;refine FsI (λw920 H920=>?_);refine Zb1 ?_;refine FsI (λw923 H923=>?_);refine Zb1 ?_;refine Vc ((k+1:Nat):Int) ?_;refine Zb2 ?_;refine Vc ((m-1:Nat):Int) ?_;refine Zb1 ?_;exact ak (k+1,m-1,swp d k m) tR ⟨⟨⟨by rw[swp_size];exact hn,dO,dO,dO⟩,hi⟩,H923⟩ dO
    rw[scanDown_end _ _ _ _ (.inl oM)]at nY;subst nY;refine Za4 ?_;refine Qn (Cp rfl (λIA=>?_) (λIA=>?_))
    . rw[part_break (ltC cf) a i j d iT iU oM]at hi
      refine Zb0 ?_;refine Ds (λarw w940 H940=>?_);refine mV ?_;refine FsI (λw947 H947=>?_);refine Zb1 ?_;refine FsI (λw950 H950=>?_);refine Zb3 ?_;exact⟨by rw[ay,<-hi];rfl,by rw[ay,<-hi];rw[swp_size];exact hn,by rw[ay,<-hi];exact H950.turn⟩
    have qQ:k<=m:=oM;have bX:=part_scans_lt (ltC cf) a i j d oM iT iU oM;rw[part_go (ltC cf) a i j d iT iU oM]at hi;refine Zb0 ?_;refine Ds (λarx w958 H958=>?_);refine mV ?_;refine FsI (λw965 H965=>?_);refine Zb1 ?_;refine FsI (λw968 H968=>?_);refine Zb1 ?_;refine Vc ((k+1:Nat):Int) ?_;refine Zb2 ?_;refine Vc ((m-1:Nat):Int) ?_;refine Zb1 ?_;exact ak (k+1,m-1,swp d k m) tR ⟨⟨⟨by rw[swp_size];exact hn,dO,dO,dO⟩,hi⟩,H968⟩ dO
  rw[scanDown_end _ _ _ _ (.inl oM)]at nY;subst nY;refine Za4 ?_;refine Qn (Cp rfl (λIB=>?_) (λIB=>?_))
  . rw[zac (show k>m from oM)]at ay
    refine Zb0 ?_;refine Ds (λarz w985 H985=>?_);refine mV ?_;refine FsI (λw992 H992=>?_);refine Zb1 ?_;refine FsI (λw995 H995=>?_);refine Zb3 ?_;exact⟨by rw[ay];rfl,by rw[ay];rw[swp_size];exact hn,by rw[ay];exact H995.turn⟩
  rw[zab (show ¬k>m from oM)]at ay;have abT:=part_scans_lt (ltC cf) a i j d oM iT iU oM;refine Zb0 ?_;refine Ds (λapH w1003 H1003=>?_);refine mV ?_;refine FsI (λw1010 H1010=>?_);refine Zb1 ?_;refine FsI (λw1013 H1013=>?_);refine Zb1 ?_;refine Vc ((k+1:Nat):Int) ?_;refine Zb2 ?_;refine Vc ((m-1:Nat):Int) ?_;refine Zb1 ?_;obtain⟨r0,LG⟩: ∃r0,r0=partLoop (ltC cf) a (k+1) (m-1) (swp d k m):=⟨_,rfl⟩;rw[<-LG]at ay;refine aP (λx:Nat×Nat×Array α=>[(0,.slice A n c),(1,I a),(4,fv),(12,I x.1),(13,I x.2.1)]) (λx w'=>((n=x.2.2.size/\a<x.1/\x.1<=x.2.1+1/\x.2.1<n)/\partLoop (ltC cf) a x.1 x.2.1 x.2.2=r0)/\Sep w F [gM f A n c x.2.2] w') (λx _=>x.2.1+1-x.1) (k+1,m-1,swp d k m) tR ⟨⟨⟨by dsimp only;rw[swp_size];exact hn,dO,dO,dO⟩,LG.symm⟩,H1013⟩ (λx τ w1021 hI=>?_);clear hR hn iT iU G9 Ja hkj hmj hd hi hj MP LC MQ LG abT;obtain⟨i,j,d⟩:=x;obtain⟨⟨⟨hn,MP,LC,MQ⟩,hi⟩,H1021⟩:=hI;dsimp only at hn MP LC MQ hi H1021;have hR:=rdI hn H1021 At0;obtain⟨i2,Bf⟩: ∃i2,i2=scanUp (λx=>ltC cf x d[a]!) d j i:=⟨_,rfl⟩;have G9:=scanUp_ge (λx=>ltC cf x d[a]!) d j i;rw[<-Bf]at G9;obtain⟨j2,Fe⟩: ∃j2,j2=scanDown (λx=> !ltC cf x d[a]!) d i2 j:=⟨_,rfl⟩;have Ja:=scanDown_le (λx=> !ltC cf x d[a]!) d i2 j;rw[<-Fe]at Ja;have iT:=Bf;have iU:=Fe
  try simp only[dA,like,bB]
  refine Zb0 ?_;refine aP (λk:Nat=>[(0,.slice A n c),(1,I a),(4,fv),(12,I k),(13,I j)]) (λk w'=>(a<k/\k<=j+1/\scanUp (λx=>ltC cf x d[a]!) d j k=i2)/\Sep w F [gM f A n c d] w') (λk _=>j+1-k) i tR ⟨⟨MP,LC,Bf.symm⟩,H1021⟩ (λk τ w1023 hI=>?_);obtain⟨⟨hak,hkj,nu⟩,H1023⟩:=hI
  try simp only[dA,like,bB]
  refine Zb0 ?_;refine Ds (λakH w1026 H1026=>?_);refine Zb4 ?_;refine fP (t:=108) rfl (λamP=>?_) (λamP=>?_)
  . have Qm:k<=j:=oM
    refine Zb9 ?_;refine FcI (λw1035 H1035=>?_);refine Za2 ?_;refine dP akH kR ?_;refine aU (Cp rfl (λIC=>?_) (λIC=>?_))
    . rw[scanUp_go _ _ _ _ Qm (by simp[ltC];have:=IC;omega)]at nu
      refine Zb1 ?_;refine Vc ((k+1:Nat):Int) ?_;refine Zb1 ?_;exact ak (k+1) tR ⟨⟨oM,oM,nu⟩,H1035⟩ oM
    rw[scanUp_end _ _ _ _ (.inr (by simp[ltC];have:=IC;omega))]at nu;subst nu;refine Zb0 ?_;refine aP (λm:Nat=>[(0,.slice A n c),(1,I a),(4,fv),(12,I k),(13,I m)]) (λm w'=>(m<=j/\scanDown (λx=> !ltC cf x d[a]!) d k m=j2)/\Sep w F [gM f A n c d] w') (λm _=>m) j tR ⟨⟨zbf _,Fe.symm⟩,H1035⟩ (λm τ w1046 hI=>?_);obtain⟨⟨hmj,nY⟩,H1046⟩:=hI
    try simp only[dA,like,bB]
    refine Zb0 ?_;refine Ds (λakI w1049 H1049=>?_);refine Zb4 ?_;refine fP (t:=126) rfl (λamQ=>?_) (λamQ=>?_)
    . have LD:k<=m:=oM
      refine Zb9 ?_;refine FcI (λw1058 H1058=>?_);refine Za3 ?_;refine dP akI kR ?_;refine aU (Cp rfl (λID=>?_) (λID=>?_))
      . rw[scanDown_go _ _ _ _ LD oM (by simp[ltC];have:=ID;omega)]at nY
        refine Zb1 ?_;refine Vc ((m-1:Nat):Int) ?_;refine Zb1 ?_;exact ak (m-1) tR ⟨⟨oM,nY⟩,H1058⟩ oM
      rw[scanDown_end _ _ _ _ (.inr (by simp[ltC];have:=ID;omega))]at nY;subst nY;refine Za3 ?_;refine Qn (Cp rfl (λIE=>?_) (λIE=>?_))
      . rw[part_break (ltC cf) a i j d iT iU oM]at hi
        refine Zb0 ?_;refine Ds (λapI w1076 H1076=>?_);refine mV ?_;refine FsI (λw1083 H1083=>?_);refine Zb1 ?_;refine FsI (λw1086 H1086=>?_);refine Zb3 ?_;exact⟨by rw[ay,<-hi];rfl,by rw[ay,<-hi];rw[swp_size];exact hn,by rw[ay,<-hi];exact H1086.turn⟩
      have qQ:k<=m:=oM;have bX:=part_scans_lt (ltC cf) a i j d oM iT iU oM;rw[part_go (ltC cf) a i j d iT iU oM]at hi;refine Zb0 ?_;refine Ds (λapJ w1094 H1094=>?_);refine mV ?_;refine FsI (λw1101 H1101=>?_);refine Zb1 ?_;refine FsI (λw1104 H1104=>?_);refine Zb1 ?_;refine Vc ((k+1:Nat):Int) ?_;refine Zb2 ?_;refine Vc ((m-1:Nat):Int) ?_;refine Zb1 ?_;exact ak (k+1,m-1,swp d k m) tR ⟨⟨⟨by rw[swp_size];exact hn,dO,dO,dO⟩,hi⟩,H1104⟩ dO
    rw[scanDown_end _ _ _ _ (.inl oM)]at nY;subst nY;refine Za4 ?_;refine Qn (Cp rfl (λIF=>?_) (λIF=>?_))
    . rw[part_break (ltC cf) a i j d iT iU oM]at hi
      refine Zb0 ?_;refine Ds (λapK w1121 H1121=>?_);refine mV ?_;refine FsI (λw1128 H1128=>?_);refine Zb1 ?_;refine FsI (λw1131 H1131=>?_);refine Zb3 ?_;exact⟨by rw[ay,<-hi];rfl,by rw[ay,<-hi];rw[swp_size];exact hn,by rw[ay,<-hi];exact H1131.turn⟩
    have qQ:k<=m:=oM;have bX:=part_scans_lt (ltC cf) a i j d oM iT iU oM;rw[part_go (ltC cf) a i j d iT iU oM]at hi;refine Zb0 ?_;refine Ds (λapL w1139 H1139=>?_);refine mV ?_;refine FsI (λw1146 H1146=>?_);refine Zb1 ?_;refine FsI (λw1149 H1149=>?_);refine Zb1 ?_;refine Vc ((k+1:Nat):Int) ?_;refine Zb2 ?_;refine Vc ((m-1:Nat):Int) ?_;refine Zb1 ?_;exact ak (k+1,m-1,swp d k m) tR ⟨⟨⟨by rw[swp_size];exact hn,dO,dO,dO⟩,hi⟩,H1149⟩ dO
  rw[scanUp_end _ _ _ _ (.inl oM)]at nu;subst nu;refine Zb1 ?_;refine aP (λm:Nat=>[(0,.slice A n c),(1,I a),(4,fv),(12,I k),(13,I m)]) (λm w'=>(m<=j/\scanDown (λx=> !ltC cf x d[a]!) d k m=j2)/\Sep w F [gM f A n c d] w') (λm _=>m) j tR ⟨⟨zbf _,Fe.symm⟩,H1026⟩ (λm τ w1160 hI=>?_);obtain⟨⟨hmj,nY⟩,H1160⟩:=hI
  try simp only[dA,like,bB]
  refine Zb0 ?_;refine Ds (λakJ w1163 H1163=>?_);refine Zb4 ?_;refine fP (t:=126) rfl (λamR=>?_) (λamR=>?_)
  . have LD:k<=m:=oM
    refine Zb9 ?_;refine FcI (λw1172 H1172=>?_);refine Za3 ?_;refine dP akJ kR ?_;refine aU (Cp rfl (λIG=>?_) (λIG=>?_))
    . rw[scanDown_go _ _ _ _ LD oM (by simp[ltC];have:=IG;omega)]at nY
      refine Zb1 ?_;refine Vc ((m-1:Nat):Int) ?_;refine Zb1 ?_;exact ak (m-1) tR ⟨⟨oM,nY⟩,H1172⟩ oM
    rw[scanDown_end _ _ _ _ (.inr (by simp[ltC];have:=IG;omega))]at nY;subst nY;refine Za3 ?_;refine Qn (Cp rfl (λIH=>?_) (λIH=>?_))
    . rw[part_break (ltC cf) a i j d iT iU oM]at hi
      refine Zb0 ?_;refine Ds (λapM w1190 H1190=>?_);refine mV ?_;refine FsI (λw1197 H1197=>?_);refine Zb1 ?_;refine FsI (λw1200 H1200=>?_);refine Zb3 ?_;exact⟨by rw[ay,<-hi];rfl,by rw[ay,<-hi];rw[swp_size];exact hn,by rw[ay,<-hi];exact H1200.turn⟩
    have qQ:k<=m:=oM;have bX:=part_scans_lt (ltC cf) a i j d oM iT iU oM;rw[part_go (ltC cf) a i j d iT iU oM]at hi;refine Zb0 ?_;refine Ds (λapN w1208 H1208=>?_);refine mV ?_;refine FsI (λw1215 H1215=>?_);refine Zb1 ?_;refine FsI (λw1218 H1218=>?_);refine Zb1 ?_;refine Vc ((k+1:Nat):Int) ?_;refine Zb2 ?_;refine Vc ((m-1:Nat):Int) ?_;refine Zb1 ?_;exact ak (k+1,m-1,swp d k m) tR ⟨⟨⟨by rw[swp_size];exact hn,dO,dO,dO⟩,hi⟩,H1218⟩ dO
  rw[scanDown_end _ _ _ _ (.inl oM)]at nY;subst nY;refine Za4 ?_;refine Qn (Cp rfl (λII=>?_) (λII=>?_))
  . rw[part_break (ltC cf) a i j d iT iU oM]at hi
    refine Zb0 ?_;refine Ds (λapO w1235 H1235=>?_);refine mV ?_;refine FsI (λw1242 H1242=>?_);refine Zb1 ?_;refine FsI (λw1245 H1245=>?_);refine Zb3 ?_;exact⟨by rw[ay,<-hi];rfl,by rw[ay,<-hi];rw[swp_size];exact hn,by rw[ay,<-hi];exact H1245.turn⟩
  have qQ:k<=m:=oM;have bX:=part_scans_lt (ltC cf) a i j d oM iT iU oM;rw[part_go (ltC cf) a i j d iT iU oM]at hi;refine Zb0 ?_;refine Ds (λapP w1253 H1253=>?_);refine mV ?_;refine FsI (λw1260 H1260=>?_);refine Zb1 ?_;refine FsI (λw1263 H1263=>?_);refine Zb1 ?_;refine Vc ((k+1:Nat):Int) ?_;refine Zb2 ?_;refine Vc ((m-1:Nat):Int) ?_;refine Zb1 ?_;exact ak (k+1,m-1,swp d k m) tR ⟨⟨⟨by rw[swp_size];exact hn,dO,dO,dO⟩,hi⟩,H1263⟩ dO
end
end Go.Proofs.YtkfpleidaoaonaaGreatDoor
