/-
 The program's comparison of cells,its logic,walked.
-/
import Derived.Test.YtkfpleidaoaonaaGreatDoorNu1
import Derived.Test.YtkfpleidaoaonaaGreatDoorNu3
import Derived.Test.YtkfpleidaoaonaaGreatDoorNu8
import Derived.Test.YtkfpleidaoaonaaGreatDoorNu7
import Derived.Lib.RowBridge
import Derived.Lib.Builder
import Derived.Lib.UnsafeStr
set_option linter.unusedVariables false
set_option linter.unusedSimpArgs false
namespace Go.Proofs.YtkfpleidaoaonaaGreatDoor
open Go Go.Mw Go.Lib Tryz
set_option maxRecDepth 4000
attribute [local irreducible] FW FL FG FGn gu gy dh gH Qfn Gives
attribute [local irreducible] jV
section
variable {w:Wd}
theorem vK (a b:aI):aN prog 154 [agg (aj a),agg (aj b)] w λv w'=>v=I (vT a b)/\Kept noB w w':=by
 have H:=Sep.aL w;refine dS func154 rfl rfl rfl rfl ?_;refine Sr (dz H (cs:=aj a) rfl (h:=λb0 w2 H2 k0=>?_));refine dz H2 (cs:=aj b) rfl (h:=λb1 w4 H4 k1=>?_);refine Za7 ?_;refine Qn (Cp rfl (λIa=>?_) (λIa=>?_))
 .have hn:=Ia
  refine Zb0 ?_;refine Ds (λSa wa Ha=>?_);refine Zb4 ?_;refine Gp Sa 5 rfl rfl (λ_=>(Gives.ou rfl)) (Zb3 ?_);refine Ny Sa 4 [(8,false),(7,true),(6,false),(5,true)] Ha (akn a.n b.n) (h:=λwb Hb=>⟨aY Hb (h:=ah (aY Hb (h:=ah (aK)))),?_⟩);refine Ny Sa 9 _ Hb (nD (Tryz.strings_Compare ⟨a.s.toArray⟩ ⟨b.s.toArray⟩ _)) (h:=λwc Hc=>⟨sT,?_⟩);refine bU Sa 10 _ Hc (xs:=[.tmp 15,.tmp 20]) (out:=[Fx a.n b.n,compareBytes a.s b.s].flatMap intCells) (bE.one rfl rfl (bE.one rfl rfl bE.nil)) (h:=λbs wd Hd=>⟨sT,?_⟩);have yU:aM _ (.slice (some ⟨bs,0,none⟩) 2 2) intCells 1 [Fx a.n b.n,compareBytes a.s b.s]:=⟨some ⟨bs,0,none⟩,2,rfl,⟨sM,oM⟩,Sep.qJ Hd At0 rfl⟩;refine iZ Sa 11 _ Hd (amw yU) (h:=λwe He ka=>⟨sT,?_⟩);refine Zb1 ?_;exact⟨by rw[<-amv a b hn];rfl,He.kept⟩
 have hn:=Ia;refine Za3 ?_;refine Qn (Cd rfl (λIb=>?_) (λIb=>?_))
 .have hna:=Ib
  refine Zb1 ?_;exact⟨by unfold vT;rw[zab hn,zac hna];rfl,H4.kept⟩
 have hna:=Ib;refine Zb1 ?_;exact⟨by unfold vT;rw[zab hn,zab (by rw[hna];simp)];rfl,H4.kept⟩
theorem Bb {b:Nat} {E:Td} {l:List aI} {vl:Value} (c:aI) (hb:w.heap[b]? =some (.cells #[vl] E (0,0))) (hl:aM w vl aj 3 l):aN prog 263 [agg (aj c),.pointer (some ⟨b,0,none⟩)] w λv w'=>v=.bool (l.any λy=>decide (c=y))/\Kept noB w w':=by
 have H:=Sep.aL w;refine dS func263 rfl rfl rfl rfl ?_;refine Sr (dz H (cs:=aj c) rfl (h:=λb0 w2 H2 k0=>?_));refine Zb1 ?_;refine ig (cs:=[vl]) (H2.kept.get hb id) (h:=?_);refine Zb1 ?_;refine aF H2 (YK c (hl.keep H2.kept)) (h:=λw7 H7 k6=>?_);refine Zb1 ?_;exact⟨rfl,H7.kept⟩
theorem JZ {k:Int} {l:List aI} {a b:aI} (hs:D6 k l a b) (c:aI):(l.any λy=>decide (c=y))=decide (a=c\/b=c):=by
 rw[hs.any];rw[zdj,Bool.or_eq_true,decide_eq_true_eq,decide_eq_true_eq,decide_eq_true_eq];exact⟨λh=>h.imp Eq.symm Eq.symm,λh=>h.imp Eq.symm Eq.symm⟩
theorem Ll {k:Int} {l:List aI} {a b:aI} {vl:Value} (hl:aM w vl aj 3 l) (hs:D6 k l a b):aN prog 197 [I k,vl] w λv w'=>v=agg (aj (yN k a b))/\Kept noB w w':=by
 have MR:=hl;obtain⟨A,m,rfl,⟨hm,qo⟩,hA⟩:=hl;have H:=Sep.aL w;obtain⟨hga,_,G8⟩:=hs.get;obtain⟨res,ay⟩: ∃res,res=yN k a b:=⟨_,rfl⟩;rw[<-ay];unfold yN at ay;refine DR func197 rfl rfl rfl rfl ?_;refine Sr (dz H (cs:=[.slice A l.length m]) rfl (h:=λb0 w2 H2 k0=>?_));refine aW H2 (h:=λb1 w4 H4 k3=>?_);refine Zb5 ?_;refine aC (t:=10) rfl (λSa=>?_) (λSa=>?_)
 .have anb:k=13:=Sa
  refine Zb1 ?_;refine aF H4 (fI _) (h:=λwa Ha ka=>?_);refine On ?_;have J9:=Ha.obj At1;refine fB (fs:=[]) (cs:=[.pointer (some ⟨b0,0,none⟩)]) (vals:=[_]) rfl (Bb (jV false) J9 (MR.keep Ha.kept)) rfl rfl (λv' wb hv=>?_);obtain⟨rfl,eB⟩:=hv;have Hb:=Ha.keep eB;rw[JZ hs];refine Za2 ?_;refine Qn (Cp rfl (λIa=>?_) (λIa=>?_))
  .rw[zac ⟨anb,Ia⟩]at ay
   refine Sk (xu (zaw Value.bool (zbe Ia)) ?_);refine Zb2 ?_;refine aF Hb (fI _) (h:=λwc Hc kb=>?_);refine au Hc (h:=λwd Hd=>?_);refine Qn (Rb (aX (h:=?_)));exact⟨_,jg Hd,by rw[ay,show decide (k=14)=false from zar oM];rfl,Hd.kept⟩
  rw[zab (λh=>Ia h.2),zab (λh=>oM)]at ay;refine Zb3 ?_;refine aC (t:=17) rfl (λSb=>?_) (λSb=>?_)
  .exact zat Sb oM
  refine Zb3 ?_;refine Vb (aj dW) ?_;have J9:=Hb.obj At1;refine fB (fs:=[]) (cs:=[.pointer (some ⟨b0,0,none⟩)]) (vals:=[_]) rfl (Bb dW J9 (MR.keep Hb.kept)) rfl rfl (λv' we hv=>?_);obtain⟨rfl,eB⟩:=hv;have He:=Hb.keep eB;rw[JZ hs];refine Am ?_;refine Qn (Cp rfl (λIb=>?_) (λIb=>?_))
  .rw[zac Ib]at ay
   refine Sr (Vb (aj dW) ?_);refine au He (h:=λwf Hf=>?_);refine Qn (Rb (aX (h:=?_)));exact⟨_,jg Hf,by rw[ay];rfl,Hf.kept⟩
  rw[zab Ib]at ay;refine Za3 ?_;refine Qn (Cp rfl (λIc=>?_) (λIc=>?_))
  .rw[zac Ic]at ay
   refine Zb0 ?_;refine Ds (λSc wg Hg=>?_);refine Zb3 ?_;refine iZ Sc 3 [(2,false),(1,true),(0,false)] Hg (fI _) (h:=λwh Hh kc=>⟨(dN rfl kR (Gives.jQ (i:=0) rfl Hh hA hga) rfl (ah (aY Hh (h:=aK)))),?_⟩);refine Gp Sc 4 rfl rfl (λ_=>(Gives.aj9 (enc:=aj) _ _ rfl rfl)) (iZ Sc 5 _ Hh (fI _) (h:=λwi Hi kd=>⟨sT,?_⟩));refine eH Sc 6 _ Hi (h:=λwj Hj=>⟨sT,?_⟩);refine dP Sc kR ?_;refine aU (Rb (aX (h:=?_)));exact⟨_,jg Hj,by rw[ay];rfl,Hj.kept⟩
  rw[zab Ic]at ay;refine Zb2 ?_;refine aF He (fI _) (h:=λwk Hk ke=>?_);refine au Hk (h:=λwl Hl=>?_);refine Qn (fu (aX (h:=?_)));exact⟨_,jg Hl,by rw[ay];rfl,Hl.kept⟩
 have anb: ¬k=13:=Sa;rw[zab (λh=>anb h.1)]at ay;refine Zb5 ?_;refine aC (t:=17) rfl (λSd=>?_) (λSd=>?_)
 .have anc:k=14:=Sd
  refine Zb1 ?_;refine aF H4 (fI _) (h:=λwm Hm kf=>?_);refine On ?_;have J9:=Hm.obj At1;refine fB (fs:=[]) (cs:=[.pointer (some ⟨b0,0,none⟩)]) (vals:=[_]) rfl (Bb (jV true) J9 (MR.keep Hm.kept)) rfl rfl (λv' wn hv=>?_);obtain⟨rfl,eB⟩:=hv;have Hn:=Hm.keep eB;rw[JZ hs];refine Za2 ?_;refine Qn (Cp rfl (λId=>?_) (λId=>?_))
  .rw[zac ⟨anc,Id⟩]at ay
   refine Zb2 ?_;refine aF Hn (fI _) (h:=λwo Ho kg=>?_);refine au Ho (h:=λwp Hp=>?_);refine Qn (Rb (aX (h:=?_)));exact⟨_,jg Hp,by rw[ay,show decide (k=14)=true from zbe oM];rfl,Hp.kept⟩
  rw[zab (λh=>Id h.2)]at ay;refine Zb1 ?_;refine Vb (aj dW) ?_;have J9:=Hn.obj At1;refine fB (fs:=[]) (cs:=[.pointer (some ⟨b0,0,none⟩)]) (vals:=[_]) rfl (Bb dW J9 (MR.keep Hn.kept)) rfl rfl (λv' wq hv=>?_);obtain⟨rfl,eB⟩:=hv;have Hq:=Hn.keep eB;rw[JZ hs];refine Am ?_;refine Qn (Cp rfl (λIe=>?_) (λIe=>?_))
  .rw[zac Ie]at ay
   refine Sr (Vb (aj dW) ?_);refine au Hq (h:=λwr Hr=>?_);refine Qn (Rb (aX (h:=?_)));exact⟨_,jg Hr,by rw[ay];rfl,Hr.kept⟩
  rw[zab Ie]at ay;refine Za3 ?_;refine Qn (Cp rfl (λIf=>?_) (λIf=>?_))
  .rw[zac If]at ay
   refine Zb0 ?_;refine Ds (λSe ws Hs=>?_);refine Zb3 ?_;refine iZ Se 3 [(2,false),(1,true),(0,false)] Hs (fI _) (h:=λwt Ht kh=>⟨(dN rfl kR (Gives.jQ (i:=0) rfl Ht hA hga) rfl (ah (aY Ht (h:=aK)))),?_⟩);refine Gp Se 4 rfl rfl (λ_=>(Gives.aj9 (enc:=aj) _ _ rfl rfl)) (iZ Se 5 _ Ht (fI _) (h:=λwu Hu ki=>⟨sT,?_⟩));refine eH Se 6 _ Hu (h:=λwv Hv=>⟨sT,?_⟩);refine dP Se kR ?_;refine aU (Rb (aX (h:=?_)));exact⟨_,jg Hv,by rw[ay];rfl,Hv.kept⟩
  rw[zab If]at ay;refine Zb2 ?_;refine aF Hq (fI _) (h:=λww Hw kj=>?_);refine au Hw (h:=λwx Hx=>?_);refine Qn (fu (aX (h:=?_)));exact⟨_,jg Hx,by rw[ay];rfl,Hx.kept⟩
 have anc: ¬k=14:=Sd;rw[zab (λh=>anc h.1)]at ay;refine Zb3 ?_;refine Vb (aj dW) ?_;have J9:=H4.obj At1;refine fB (fs:=[]) (cs:=[.pointer (some ⟨b0,0,none⟩)]) (vals:=[_]) rfl (Bb dW J9 (MR.keep H4.kept)) rfl rfl (λv' wy hv=>?_);obtain⟨rfl,eB⟩:=hv;have Hy:=H4.keep eB;rw[JZ hs];refine Am ?_;refine Qn (Cp rfl (λIg=>?_) (λIg=>?_))
 .rw[zac Ig]at ay
  refine Sr (Vb (aj dW) ?_);refine au Hy (h:=λwz Hz=>?_);refine Qn (Rb (aX (h:=?_)));exact⟨_,jg Hz,by rw[ay];rfl,Hz.kept⟩
 rw[zab Ig]at ay;refine Za3 ?_;refine Qn (Cp rfl (λIh=>?_) (λIh=>?_))
 .rw[zac Ih]at ay
  refine Zb0 ?_;refine Ds (λSf wD HA=>?_);refine Zb3 ?_;refine iZ Sf 3 [(2,false),(1,true),(0,false)] HA (fI _) (h:=λwE HB kk=>⟨(dN rfl kR (Gives.jQ (i:=0) rfl HB hA hga) rfl (ah (aY HB (h:=aK)))),?_⟩);refine Gp Sf 4 rfl rfl (λ_=>(Gives.aj9 (enc:=aj) _ _ rfl rfl)) (iZ Sf 5 _ HB (fI _) (h:=λwF HC kl=>⟨sT,?_⟩));refine eH Sf 6 _ HC (h:=λwG HD=>⟨sT,?_⟩);refine dP Sf kR ?_;refine aU (Rb (aX (h:=?_)));exact⟨_,jg HD,by rw[ay];rfl,HD.kept⟩
 rw[zab Ih]at ay;refine Zb2 ?_;refine aF Hy (fI _) (h:=λwH HE km=>?_);refine au HE (h:=λwI HF=>?_);refine Qn (fu (aX (h:=?_)));exact⟨_,jg HF,by rw[ay];rfl,HF.kept⟩
end
end Go.Proofs.YtkfpleidaoaonaaGreatDoor
namespace Go.Proofs.YtkfpleidaoaonaaGreatDoor
open Go Go.Mw Go.Lib
set_option maxRecDepth 4000
attribute [local irreducible] FW FL FG FGn gu gy dh gH Qfn Gives
attribute [local irreducible] jV vT yN
theorem ae8 {k:Int} {a b:aI} (h7:7<=k) (h18:k<=18) (h1: ¬(k=13\/k=14\/k=15)) (h2: ¬k=16) (h3: ¬k=17) (h4: ¬(a.null=true\/b.null=true)) (h5: ¬k=11) (h6: ¬k=12) (h8: ¬k=18):lS k a b=Fw (MI k a.n b.n):=by
 unfold lS Fw MI;rw[zab h1,zab h2,zab h3,zab h4,zab h5,zab h6,zab h8]
theorem m39 {p:Prop} (h:p:=by
 rw[ay]
 first
 | (rw[zac oM];refine zaw (λx=>some (jV x)) ?_;first | exact zbe oM | exact zar oM | exact zbj.2 oM)
 | (rw[zab oM,zac oM];refine zaw (λx=>some (jV x)) ?_;first | exact zbe oM | exact zar oM | exact zbj.2 oM)):p:=h
section
variable {w:Wd}
theorem ah3 {k:Int} {l:List aI} {a b:aI} {vl:Value} (hl:aM w vl aj 3 l) (hs:D6 k l a b) (h7:7<=k) (h18:k<=18) (ha:fits a.n) (hb:fits b.n):aN Tryz.prog 139 [I k,vl] w λv w'=>(∃c,v=.tuple #[agg (aj c),.bool (lS k a b).isSome]/\∀y,lS k a b=some y->c=y)/\Kept noB w w':=by
 have MR:=hl;obtain⟨A,m,rfl,⟨hm,qo⟩,hA⟩:=hl;have H:=Sep.aL w;obtain⟨hga,hgb,G8⟩:=hs.get;have hl2:l.length<=2:=by rcases hs with⟨rfl,_⟩ | ⟨rfl,_⟩<;>simp
 obtain⟨res,Zv⟩: ∃res,res=lS k a b:=⟨_,rfl⟩;rw[<-Zv];have ay:=Zv;unfold lS at ay;refine DR Tryz.func139 rfl rfl rfl rfl ?_;refine Sr (aW H (h:=λb4 w2 H2 k1=>?_));refine Am ?_;refine Qn (iP (λz:Nat×Nat=>[(0,I k),(1,.slice A l.length m),(4,.pointer (some ⟨b4,0,none⟩)),(6,.pointer (some ⟨z.1,0,none⟩)),(7,.pointer (some ⟨z.2,0,none⟩))]) (λz w'=>Sep w noB [blk z.2 (aj b) 52,blk z.1 (aj a) 52,blk b4 (aj cell0) 52] w') ?_ ?_)
 .refine Ds (λLH w7 H7=>?_)
  refine Zb1 ?_;refine Gp LH 1 rfl rfl (λ_=>(Gives.mK (i:=0) rfl rfl hA G8)) (GS (Gt rfl (Gives.jQ (i:=0) rfl H7 hA hga) ?_));refine Zb3 ?_;refine Gc LH 6 ((l.length-1:Nat):Int) ?_;refine Zb1 ?_;refine GS (Gt rfl (Gives.jQ (i:=l.length-1) rfl H7 hA hgb) ?_);refine jK LH (e1:=9) (e2:=10) kR ?_ ?_
  .refine ni LH 9 [(8,false),(7,true),(6,true),(5,true),(4,true),(3,true),(2,false),(1,true),(0,true)] H7 (h:=λb6 wa Ha=>⟨(dN rfl kR (Gives.jQ (i:=l.length-1) rfl Ha hA hgb) rfl (ah (ah (ah (ah (ah ((dN rfl kR (Gives.jQ (i:=0) rfl Ha hA hga) rfl (ah (ah (aK))))))))))),?_⟩)
   refine xE LH 10 [(8,false),(7,true),(6,true),(5,true),(4,true),(3,true),(2,false),(1,true),(0,true)] Ha (h:=λb7 wb Hb=>⟨(dN rfl kR (Gives.jQ (i:=l.length-1) rfl Hb hA hgb) rfl (ah (ah (ah (ah (ah ((dN rfl kR (Gives.jQ (i:=0) rfl Hb hA hga) rfl (ah (ah (aK))))))))))),?_⟩);refine eH LH 11 [(8,false),(7,true),(6,true),(5,true),(4,true),(3,true)] Hb (h:=λwc Hc=>⟨(dN rfl kR (Gives.jQ (i:=l.length-1) rfl Hc hA hgb) rfl (ah (ah (ah (ah (ah (aK))))))),?_⟩);refine eH LH 12 _ Hc (h:=λwd Hd=>⟨sT,?_⟩);refine Zb0 ?_;exact aG (b6,b7) tR Hd
  refine ni LH 10 [(8,false),(7,true),(6,true),(5,true),(4,true),(3,true),(2,false),(1,true),(0,true)] H7 (h:=λb7 we He=>⟨(dN rfl kR (Gives.jQ (i:=l.length-1) rfl He hA hgb) rfl (ah (ah (ah (ah (ah ((dN rfl kR (Gives.jQ (i:=0) rfl He hA hga) rfl (ah (ah (aK))))))))))),?_⟩);refine xE LH 9 [(8,false),(7,true),(6,true),(5,true),(4,true),(3,true),(2,false),(1,true),(0,true)] He (h:=λb6 wf Hf=>⟨(dN rfl kR (Gives.jQ (i:=l.length-1) rfl Hf hA hgb) rfl (ah (ah (ah (ah (ah ((dN rfl kR (Gives.jQ (i:=0) rfl Hf hA hga) rfl (ah (ah (aK))))))))))),?_⟩);refine eH LH 11 [(8,false),(7,true),(6,true),(5,true),(4,true),(3,true)] Hf (h:=λwg Hg=>⟨(dN rfl kR (Gives.jQ (i:=l.length-1) rfl Hg hA hgb) rfl (ah (ah (ah (ah (ah (aK))))))),?_⟩);refine eH LH 12 _ Hg (h:=λwh Hh=>⟨sT,?_⟩);refine Zb0 ?_;exact aG (b6,b7) tR Hh.aJ
 rintro⟨b6,b7⟩ τ wi Hi;dsimp only at Hi;simp only[dA,like,bB,bY];refine Zb3 ?_;refine aC (t:=23) rfl (λSa=>?_) (λSa=>?_)
 .refine Zb6 ?_
  refine aF Hi (Ll (MR.keep Hi.kept) hs) (h:=λwj Hj ka=>?_);refine au Hj (h:=λwk Hk=>?_);refine Am ?_;refine Qn (Rb (aX (h:=?_)));exact⟨_,jh Hk,lM (by rw[ay,zac oM]),Hk.kept⟩
 refine Zb4 ?_;refine aC (t:=27) rfl (λSb=>?_) (λSb=>?_)
 .refine Zb4 ?_
  refine aF Hi (Ll (MR.keep Hi.kept) hs) (h:=λwl Hl kb=>?_);refine au Hl (h:=λwm Hm=>?_);refine Am ?_;refine Qn (Rb (aX (h:=?_)));exact⟨_,jh Hm,lM (by rw[ay,zac oM]),Hm.kept⟩
 refine Za4 ?_;refine Qn (Cp rfl (λIa=>?_) (λIa=>?_))
 .refine Zb2 ?_
  refine aF Hi (Ll (MR.keep Hi.kept) hs) (h:=λwn Hn kc=>?_);refine au Hn (h:=λwo Ho=>?_);refine Am ?_;refine Qn (Rb (aX (h:=?_)));exact⟨_,jh Ho,lM (by rw[ay,zac oM]),Ho.kept⟩
 refine Za3 ?_;refine Qn (Cp rfl (λIb=>?_) (λIb=>?_))
 .refine Zb2 ?_
  refine aF Hi (fI _) (h:=λwp Hp kd=>?_);refine au Hp (h:=λwq Hq=>?_);refine Am ?_;refine Qn (Rb (aX (h:=?_)));exact⟨_,jh Hq,lM (by rw[ay,zab oM,zac oM]),Hq.kept⟩
 refine Zb3 ?_;refine aC (t:=43) rfl (λSc=>?_) (λSc=>?_)
 .refine Za4 ?_
  refine Qn (Cd rfl (λIc=>?_) (λIc=>?_))
  .have hnl:=Ic
   refine Zb1 ?_;refine au Hi (h:=λwr Hr=>?_);refine Am ?_;refine Qn (Rb (aX (h:=?_)));exact⟨_,jh Hr,lM (by rw[ay,zab oM,zab oM,zac oM,zac hnl]),Hr.kept⟩
  have hnl:=Ic;refine Za3 ?_;refine Qn (Cp rfl (λId=>?_) (λId=>?_))
  .refine Zb1 ?_
   refine au Hi (h:=λws Hs=>?_);refine Am ?_;refine Qn (Rb (aX (h:=?_)));exact⟨_,jh Hs,lM (by rw[ay,zab oM,zab oM,zac oM,zab (by simp[hnl])]),Hs.kept⟩
  refine Zb3 ?_;refine iN (t:=55) rfl (λSd=>?_) (λSd=>?_)
  .refine Zb2 ?_
   refine Vb (aj dW) ?_;refine au Hi (h:=λwt Ht=>?_);refine Am ?_;refine Qn (Rb (aX (h:=?_)))
   (exfalso;omega)
  refine Za4 ?_;refine Qn (Cd rfl (λIe=>?_) (λIe=>?_))
  .refine Sr (Vb (aj dW) ?_)
   refine au Hi (h:=λwu Hu=>?_);refine Am ?_;refine Qn (Rb (aX (h:=?_)))
   (exfalso;omega)
  have hnn: ¬(a.null=true\/b.null=true):=by simp[*]
  rw[zab oM,zab oM,zab oM,zab hnn]at ay;refine Zb3 ?_;refine aC (t:=63) rfl (λSe=>?_) (λSe=>?_)
  .refine Zb4 ?_
   refine aF Hi (vK a b) (h:=λwv Hv ke=>?_);refine Zb4 ?_;refine aC (t:=72) rfl (λSf=>?_) (λSf=>?_)
   .refine Zb4 ?_
    refine aC (t:=76) rfl (λSg=>?_) (λSg=>?_)
    .refine Zb1 ?_
     refine aF Hv (fI _) (h:=λww Hw kf=>?_);refine au Hw (h:=λwx Hx=>?_);refine Am ?_;refine Qn (Rb (aX (h:=?_)))
     (exfalso;omega)
    refine Zb3 ?_;refine aC (t:=79) rfl (λSh=>?_) (λSh=>?_)
    .refine Zb4 ?_
     refine aF Hv (fI _) (h:=λwy Hy kg=>?_);refine au Hy (h:=λwz Hz=>?_);refine Am ?_;refine Qn (Rb (aX (h:=?_)))
     (exfalso;omega)
    refine Zb2 ?_;refine aF Hv (fI _) (h:=λwD HA kh=>?_);refine au HA (h:=λwE HB=>?_);refine Am ?_;refine Qn (Rb (aX (h:=?_)))
    (exfalso;omega)
   refine Zb5 ?_;refine aC (t:=79) rfl (λSi=>?_) (λSi=>?_)
   .refine Zb4 ?_
    refine aF Hv (fI _) (h:=λwF HC ki=>?_);refine au HC (h:=λwG HD=>?_);refine Am ?_;refine Qn (Rb (aX (h:=?_)))
    (exfalso;omega)
   refine Zb2 ?_;refine aF Hv (fI _) (h:=λwH HE kj=>?_);refine au HE (h:=λwI HF=>?_);refine Am ?_;refine Qn (Rb (aX (h:=?_)))
   (exfalso;omega)
  refine Za4 ?_;refine Qn (Cp rfl (λIf=>?_) (λIf=>?_))
  .refine Zb2 ?_
   refine aF Hi (vK a b) (h:=λwJ HG kk=>?_);refine Zb4 ?_;refine aC (t:=72) rfl (λSj=>?_) (λSj=>?_)
   .refine Zb4 ?_
    refine aC (t:=76) rfl (λSl=>?_) (λSl=>?_)
    .refine Zb1 ?_
     refine aF HG (fI _) (h:=λwK HH kl=>?_);refine au HH (h:=λwL HI=>?_);refine Am ?_;refine Qn (Rb (aX (h:=?_)))
     (exfalso;omega)
    refine Zb3 ?_;refine aC (t:=79) rfl (λSm=>?_) (λSm=>?_)
    .refine Zb4 ?_
     refine aF HG (fI _) (h:=λwM HJ km=>?_);refine au HJ (h:=λwN HK=>?_);refine Am ?_;refine Qn (Rb (aX (h:=?_)))
     (exfalso;omega)
    refine Zb2 ?_;refine aF HG (fI _) (h:=λwO HL kn=>?_);refine au HL (h:=λwP HM=>?_);refine Am ?_;refine Qn (Rb (aX (h:=?_)))
    (exfalso;omega)
   refine Zb5 ?_;refine aC (t:=79) rfl (λSn=>?_) (λSn=>?_)
   .refine Zb4 ?_
    refine aF HG (fI _) (h:=λwQ HN ko=>?_);refine au HN (h:=λwR HO=>?_);refine Am ?_;refine Qn (Rb (aX (h:=?_)))
    (exfalso;omega)
   refine Zb2 ?_;refine aF HG (fI _) (h:=λwS HQ kp=>?_);refine au HQ (h:=λwT HR=>?_);refine Am ?_;refine Qn (Rb (aX (h:=?_)))
   (exfalso;omega)
  refine Za3 ?_;refine Qn (Cp rfl (λIg=>?_) (λIg=>?_))
  .refine Zb3 ?_
   refine Vb (aj ⟨false,(a.s.length:Int),[]⟩) ?_;refine au Hi (h:=λwU HS=>?_);refine Am ?_;refine Qn (Rb (aX (h:=?_)))
   (exfalso;omega)
  refine Zb5 ?_;refine aS (TR k a.n b.n ha hb) rfl rfl (λv' wV hv=>?_);obtain⟨⟨cp,rfl,hcp⟩,eB⟩:=hv;have HT:=Hi.keep eB;refine Zb6 ?_;refine Vb (aj ⟨false,cp,[]⟩) ?_;refine Mv ?_;refine au HT (h:=λwW HU=>?_);refine Am ?_;refine Qn (fu (aX (h:=?_)))
  (exfalso;omega)
 refine Za5 ?_;refine Qn (Cp rfl (λIh=>?_) (λIh=>?_))
 .refine Zb1 ?_
  refine au Hi (h:=λwX HV=>?_);refine Am ?_;refine Qn (Rb (aX (h:=?_)))
  (exfalso;omega)
 refine Zb3 ?_;refine iN (t:=55) rfl (λSo=>?_) (λSo=>?_)
 .refine Zb2 ?_
  refine Vb (aj dW) ?_;refine au Hi (h:=λwY HW=>?_);refine Am ?_;refine Qn (Rb (aX (h:=?_)));exact⟨_,jh HW,lM (by rw[ay,zab oM,zab oM,zab oM,zac (by simp[*])]),HW.kept⟩
 refine Za4 ?_;refine Qn (Cd rfl (λIi=>?_) (λIi=>?_))
 .refine Sr (Vb (aj dW) ?_)
  refine au Hi (h:=λwZ HX=>?_);refine Am ?_;refine Qn (Rb (aX (h:=?_)));exact⟨_,jh HX,lM (by rw[ay,zab oM,zab oM,zab oM,zac (by simp[*])]),HX.kept⟩
 have hnn: ¬(a.null=true\/b.null=true):=by simp[*]
 rw[zab oM,zab oM,zab oM,zab hnn]at ay;refine Zb3 ?_;refine aC (t:=63) rfl (λSp=>?_) (λSp=>?_)
 .refine Zb4 ?_
  refine aF Hi (vK a b) (h:=λw_ HY kq=>?_);refine Zb4 ?_;refine aC (t:=72) rfl (λSq=>?_) (λSq=>?_)
  .refine Zb4 ?_
   refine aC (t:=76) rfl (λSs=>?_) (λSs=>?_)
   .refine Zb1 ?_
    refine aF HY (fI _) (h:=λw368 HZ kr=>?_);refine au HZ (h:=λw370 H_=>?_);refine Am ?_;refine Qn (Rb (aX (h:=?_)));exact⟨_,jh H_,lM m39,H_.kept⟩
   refine Zb3 ?_;refine aC (t:=79) rfl (λSu=>?_) (λSu=>?_)
   .refine Zb4 ?_
    refine aF HY (fI _) (h:=λw382 H382 ks=>?_);refine au H382 (h:=λw384 H384=>?_);refine Am ?_;refine Qn (Rb (aX (h:=?_)))
    (exfalso;omega)
   refine Zb2 ?_;refine aF HY (fI _) (h:=λw390 H390 kt=>?_);refine au H390 (h:=λw392 H392=>?_);refine Am ?_;refine Qn (Rb (aX (h:=?_)))
   (exfalso;omega)
  refine Zb5 ?_;refine aC (t:=79) rfl (λSv=>?_) (λSv=>?_)
  .refine Zb4 ?_
   refine aF HY (fI _) (h:=λw406 H406 ku=>?_);refine au H406 (h:=λw408 H408=>?_);refine Am ?_;refine Qn (Rb (aX (h:=?_)));exact⟨_,jh H408,lM m39,H408.kept⟩
  refine Zb2 ?_;refine aF HY (fI _) (h:=λw414 H414 kv=>?_);refine au H414 (h:=λw416 H416=>?_);refine Am ?_;refine Qn (Rb (aX (h:=?_)));exact⟨_,jh H416,lM m39,H416.kept⟩
 refine Za4 ?_;refine Qn (Cp rfl (λIj=>?_) (λIj=>?_))
 .refine Zb2 ?_
  refine aF Hi (vK a b) (h:=λw427 H427 kw=>?_);refine Zb4 ?_;refine aC (t:=72) rfl (λSw=>?_) (λSw=>?_)
  .refine Zb4 ?_
   refine aC (t:=76) rfl (λSx=>?_) (λSx=>?_)
   .refine Zb1 ?_
    refine aF H427 (fI _) (h:=λw440 H440 kx=>?_);refine au H440 (h:=λw442 H442=>?_);refine Am ?_;refine Qn (Rb (aX (h:=?_)))
    (exfalso;omega)
   refine Zb3 ?_;refine aC (t:=79) rfl (λSy=>?_) (λSy=>?_)
   .refine Zb4 ?_
    refine aF H427 (fI _) (h:=λw454 H454 ky=>?_);refine au H454 (h:=λw456 H456=>?_);refine Am ?_;refine Qn (Rb (aX (h:=?_)))
    (exfalso;omega)
   refine Zb2 ?_;refine aF H427 (fI _) (h:=λw462 H462 kz=>?_);refine au H462 (h:=λw464 H464=>?_);refine Am ?_;refine Qn (Rb (aX (h:=?_)));exact⟨_,jh H464,lM m39,H464.kept⟩
  refine Zb5 ?_;refine aC (t:=79) rfl (λSz=>?_) (λSz=>?_)
  .refine Zb4 ?_
   refine aF H427 (fI _) (h:=λw478 H478 kA=>?_);refine au H478 (h:=λw480 H480=>?_);refine Am ?_;refine Qn (Rb (aX (h:=?_)));exact⟨_,jh H480,lM m39,H480.kept⟩
  refine Zb2 ?_;refine aF H427 (fI _) (h:=λw486 H486 kB=>?_);refine au H486 (h:=λw488 H488=>?_);refine Am ?_;refine Qn (Rb (aX (h:=?_)));exact⟨_,jh H488,lM m39,H488.kept⟩
 refine Za3 ?_;refine Qn (Cp rfl (λIk=>?_) (λIk=>?_))
 .refine Zb3 ?_
  refine Vb (aj ⟨false,(a.s.length:Int),[]⟩) ?_;refine au Hi (h:=λw500 H500=>?_);refine Am ?_;refine Qn (Rb (aX (h:=?_)));exact⟨_,jh H500,lM (by rw[ay,zab oM,zab oM,zac oM]),H500.kept⟩
 refine Zb5 ?_;refine aS (TR k a.n b.n ha hb) rfl rfl (λv' w509 hv=>?_);obtain⟨⟨cp,rfl,hcp⟩,eB⟩:=hv;have H509:=Hi.keep eB;refine Zb6 ?_;refine Vb (aj ⟨false,cp,[]⟩) ?_;refine Mv ?_;refine au H509 (h:=λw519 H519=>?_);refine Am ?_;refine Qn (fu (aX (h:=?_)));exact⟨_,jh H519,aeZ (n:=MI k a.n b.n) (by rw[Zv];exact ae8 h7 h18 oM oM oM hnn oM oM oM) rfl hcp,H519.kept⟩
end
end Go.Proofs.YtkfpleidaoaonaaGreatDoor
namespace Go.Proofs.YtkfpleidaoaonaaGreatDoor
open Go Go.Lib Go.Mw
set_option maxRecDepth 4000
def jX (r:List aI):Prop:=∀c∈r,fits c.n
theorem ah4 {cols:List bL} {r:List aI} (h:gD cols r=0):cols.length=r.length/\∀(i:Nat) a c,cols[i]? =some a->r[i]? =some c->okC a.type c:=by
  have hl:cols.length=r.length:=by
    refine Classical.byContradiction λhn=>?_;unfold gD at h;rw[zac hn]at h;cases h
  refine⟨hl,λi a c ha hc=>?_⟩
  have key: ∀j,vW cols r j=0->∀i,j<=i->vW cols r i=0:=by
    intro j hj i hi
    induction i with
    | zero=>
     have :j=0:=oM;subst this;exact hj
    | succ i ih=>
      by_cases hji:j=i+1
      . rw[<-hji];exact hj
      have h0:=ih oM
      rcases zdz i r.length with bX | hge
      . obtain⟨c,hc⟩:=get_some bX
        obtain⟨a,ha⟩:=get_some (l:=cols) (i:=i) oM;rw[DY ha hc]at h0
        split at h0
        . rename_i h1;exact zat h0 h1
        exact h0
      exact Pn oM
  have h0:=key 0 (by rw[<-MF hl];exact h) i (zak _);rw[DY ha hc]at h0
  split at h0
  . rename_i h1;exact zat h0 h1
  rename_i h1;exact Classical.byContradiction λhn=>h1 hn
def CB (cols:List bL) (r:List aI) (x:bJ):aI:=if x.kind=1 then r.getD ((oC cols x.n).getD 0) cell0 else if x.kind=6 then dW else⟨false,x.n,x.s⟩
theorem abw {cols:List bL} {r:List aI} {x:bJ} {t:dJ} (hr:gD cols r=0) (hf:jX r) (hx:fits x.n) (hm:jM x=true) (hk:x.kind<7) (ht:lW cols x=some t):okC t (CB cols r x)/\fits (CB cols r x).n:=by
 obtain⟨hl,gT⟩:=ah4 hr
 have eB:1<=x.kind:=by
  unfold jM at hm
  repeat' split at hm
  all_goals first | omega | (have:=zba hm;omega)
 unfold CB;unfold lW at ht;unfold jM at hm
 by_cases h1:x.kind=1
 .rw[zac h1]at ht |-
  cases Jh:oC cols x.n with
  | none=>rw[Jh]at ht;cases ht
  | some i=>
   rw[Jh]at ht;have bX:=VQ Jh;obtain⟨a,ha⟩:=get_some bX;obtain⟨c,hc⟩:=get_some (l:=r) (i:=i) oM;have hgd:cols.getD i ⟨0,[],ng,cell0⟩=a:=qg ha;simp only[zdk,hgd]at ht ⊢;rw[qg hc];have hac:=gT i a c ha hc;have hfx:fits c.n:=hf c (zao hc)
   split at ht
   .cases ht
   injection ht with ht
   subst ht
   split
   .rename_i h2
    refine⟨?_,hfx⟩
    rcases (oh.1 hac).2 with⟨b1,b2,b3⟩ | ⟨b1,b2⟩
    .rw[b2,b3];exact AZ dC
    rw[h2]at b2;unfold isC at b2;rw[zab dC,zac rfl]at b2;have b3:=zba b2;exact oh.2 ⟨Cc (show(1:Int)<=3/\(3:Int)<=5 from dC),.inr ⟨b1,by simp[isC,b3.1]⟩⟩
   exact⟨hac,hfx⟩
 rw[zab h1]at ht hm |-
 by_cases h2:x.kind=2
 .rw[zac h2]at ht hm
  rw[zab oM];injection ht with ht
  subst ht;have hs:x.s=[]:=zba hm;rw[hs];exact⟨VR _ _,hx⟩
 rw[zab h2]at ht hm
 by_cases h3:x.kind=3
 .rw[zac h3]at ht hm
  rw[zab oM];injection ht with ht
  subst ht;have hs:=zba hm;exact⟨oh.2 ⟨Cc (show(1:Int)<=1/\(1:Int)<=5 from dC),.inr ⟨rfl,by simp[isC];exact hs⟩⟩,hx⟩
 rw[zab h3]at ht hm
 by_cases h4:x.kind=4
 .rw[zac h4]at ht hm
  rw[zab oM];injection ht with ht
  subst ht;have hs:=zba hm;exact⟨oh.2 ⟨Cc (show(1:Int)<=4/\(4:Int)<=5 from dC),.inr ⟨rfl,by simp[isC];exact hs⟩⟩,hx⟩
 rw[zab h4]at ht hm
 by_cases h5:x.kind=5
 .rw[zac h5]at ht hm
  rw[zab oM];injection ht with ht
  subst ht;have hs:=zba hm;exact⟨oh.2 ⟨Cc (show(1:Int)<=5/\(5:Int)<=5 from dC),.inr ⟨rfl,by simp[isC];exact hs⟩⟩,hx⟩
 rw[zab h5]at ht hm;rw[zac oM]at hm;rw[zac oM];injection ht with ht
 subst ht;have hs:=zba hm;exact⟨AZ oM,dC,dC⟩
def Typed (ts:List dJ) (st:List aI):Prop:=ts.length=st.length/\∀(i:Nat) t c,ts[i]? =some t->st[i]? =some c->okC t c/\fits c.n
theorem Typed.push {ts:List dJ} {st:List aI} (h:Typed ts st) {m:Nat} {t:dJ} {c:aI} (hm:m<=st.length) (hc:okC t c/\fits c.n):Typed (ts.take m++[t]) (st.take m++[c]):=by
 obtain⟨h1,h2⟩:=h;have e1:(ts.take m).length=m:=by rw[zag];omega
 have e2:(st.take m).length=m:=by rw[zag];omega
 refine⟨by simp[h1],λi t' c' ht hc'=>?_⟩
 rcases zdz i m with hi | hi
 .rw[zce oM,zcn,zac hi]at ht hc'
  exact h2 i t' c' ht hc'
 rw[zcb oM,e1]at ht;rw[zcb oM,e2]at hc';cases hd:i-m with
 | zero=>
  rw[hd]at ht hc';simp at ht hc';rw[<-ht,<-hc'];exact hc
 | succ j=>rw[hd]at ht;simp at ht
theorem Typed.nil:Typed [] []:=⟨rfl,λi t c h=>by simp at h⟩
theorem amx {x:bJ} (h:jM x=true):1<=x.kind/\x.kind<=18:=by
 unfold jM at h
 repeat' split at h
 all_goals first | omega | (have:=zba h;omega)
def amy (cols:List bL) (r:List aI) (st:List aI) (x:bJ):Option aI:=
 if rG x.kind=0 then some (CB cols r x)else sW x.kind (st.getD (st.length-rG x.kind) cell0) (st.getD (st.length-1) cell0)
theorem D8 (k:Int):eY k=0↔k<7:=by
 unfold eY
 repeat' split
 all_goals omega
theorem abx {cols:List bL} {r:List aI} {x:bJ} {ts ts':List dJ} {st:List aI} (hr:gD cols r=0) (hf:jX r) (hx:fits x.n) (hT:Typed ts st) (hs:stepT cols ts x=some ts'):
    FU cols r st x=(amy cols r st x).map (λc=>st.take (st.length-rG x.kind)++[c])/\∀c,amy cols r st x=some c->Typed ts' (st.take (st.length-rG x.kind)++[c])/\fits c.n:=by
  have qR:=λh=>YE (cols:=cols) (st:=ts) (x:=x) h
  have hm:jM x=true:=by
    cases h:jM x with
    | true=>rfl
    | false=>rw[qR (.inl h)]at hs;cases hs
  have qQ:rG x.kind<=ts.length:=by
    refine Classical.byContradiction λh=>?_;rw[qR (.inr oM)]at hs;cases hs
  rw[aeW hm qQ]at hs;obtain⟨t,ht,hts⟩:=zbb.1 hs;subst hts;have hlen:=hT.1;unfold resT at ht;unfold FU amy;have tF:=ES hm;rw[<-tF];dsimp only
  by_cases h0:rG x.kind=0
  . rw[zac h0]at ht
    rw[zac h0,zac h0];have hl:=abw hr hf hx hm ((D8 _).1 (by rw[<-tF];exact h0)) ht;refine⟨rfl,λc hc=>?_⟩;injection hc with hc
    subst hc;rw[hlen];exact⟨hT.push oM hl,hl.2⟩
  rw[zab h0]at ht;rw[zab h0,zab h0]
  have hk7:7<=x.kind:=by
    refine Classical.byContradiction λh=>h0 ?_;rw[tF];exact(D8 _).2 oM
  obtain⟨a,ha⟩:=get_some (l:=st) (i:=st.length-rG x.kind) oM;obtain⟨b,hb⟩:=get_some (l:=st) (i:=st.length-1) oM;obtain⟨ta,hta⟩:=get_some (l:=ts) (i:=ts.length-rG x.kind) oM;obtain⟨tb,ZO⟩:=get_some (l:=ts) (i:=ts.length-1) oM;rw[qg hta,qg ZO]at ht;rw[qg ha,qg hb];have oa:=hT.2 (st.length-rG x.kind) ta a (by rw[<-hlen];exact hta) ha;have ob:=hT.2 (st.length-1) tb b (by rw[<-hlen];exact ZO) hb;obtain⟨e1,e2⟩:=abp ⟨hk7,(amx hm).2⟩ ht oa.1 ob.1 oa.2 ob.2;rw[e1];refine⟨rfl,λc hc=>?_⟩;have:=e2 c hc;rw[hlen];exact⟨hT.push oM this,this.2⟩
open Tryz
attribute [local irreducible] FW FL FG FGn gu gy dh gH Qfn Gives
attribute [local irreducible] gN
section
variable {w:Wd}
theorem ae9 {b i:Nat} {E:Td} {cols:List bL} {vc:Value} {a:bL} (c:aI) (hb:w.heap[b]? =some (.cells #[vc] E (0,0))) (hc:aM w vc aR 7 cols) (ha:cols[i]? =some a) (hf:fits c.n) (hT:pO w):aN prog 143 [I i,agg (aj c),.pointer (some ⟨b,0,none⟩)] w λv w'=>v=I (gN a.type c)/\Kept noB w w':=by
 obtain⟨A,m,rfl,⟨hm,qo⟩,hA⟩:=hc;have H:=Sep.aL w;have bX:=jk ha;refine tH func143 rfl rfl rfl rfl ?_;refine Sr (dz H (cs:=aj c) rfl (h:=λb0 w2 H2 k0=>?_));refine Zb1 ?_;refine Ds (λCv w6 H6=>?_);refine G0 (Gt rfl (Gives.xZ (cs:=[.slice A cols.length m]) rfl (H6.kept.get hb id) rfl) ?_);refine Zb3 ?_;refine GS (Gt rfl (Gives.VP (us:=bD a.type) rfl H6 hA ha rfl rfl) ?_);refine Zb1 ?_;refine iZ Cv 6 _ H6 (xG a.type c hf (hT.keep H6.kept)) (h:=λwa Ha ka=>⟨sT,?_⟩);refine Zb1 ?_;exact⟨rfl,Ha.kept⟩
theorem ah5 {cols:List bL} {r:List aI} {vr:Value} {f:FuncId} {fs cs:LV} [G7:bC prog f] (hr:aM w vr aj 3 r) (hlen:cols.length=r.length)
    (uz: ∀(i:Nat) a c w',cols[i]? =some a->r[i]? =some c->Kept noB w w'->aN prog f (fs++[I i,agg (aj c)]++cs) w' λv w''=>v=I (gN a.type c)/\Kept noB w' w''):
    aN prog 142 [vr,.func (.func f) fs.toArray cs.toArray] w λv w'=>v=I (vW cols r 0)/\Kept noB w w':=by
  obtain⟨A,m,rfl,⟨hm,qo⟩,hA⟩:=hr;have H:=Sep.aL w;refine dS func142 rfl rfl rfl rfl ?_;refine Zb4 ?_;refine aP (λi:Nat=>[(1,.func (.func f) fs.toArray cs.toArray),(8,.slice A r.length m),(9,I r.length),(10,I i)]) (λi w'=>(i<=r.length/\vW cols r i=vW cols r 0)/\Sep w noB [] w') (λi _=>r.length-i) 0 tR ⟨⟨zak _,rfl⟩,H⟩ (λi τ w6 hI=>?_);obtain⟨⟨hi,gQ⟩,H6⟩:=hI
  try simp only[dA,like,bB,bY]
  refine Za1 ?_;refine Qn (fC (Cp rfl (λy8=>?_) (λy8=>?_)))
  . have bX:i<r.length:=oM
    obtain⟨c,hcg⟩:=get_some bX;obtain⟨a,ha⟩:=get_some (l:=cols) (i:=i) oM;rw[DY ha hcg]at gQ;refine Zb3 ?_;refine aW H6 (h:=λb6 wa Ha ka=>?_);refine Am ?_;refine au Ha (h:=λwb Hb=>?_);refine Zb3 ?_;refine fB (fs:=fs) (cs:=cs) (vals:=[I i,agg (aj c)]) rfl (uz i a c _ ha hcg Hb.kept) rfl rfl (λv' wc hv=>?_);obtain⟨rfl,eB⟩:=hv;have Hc:=Hb.keep eB;refine Za3 ?_;refine Qn (Cp rfl (λIa=>?_) (λIa=>?_))
    . rw[zac Ia]at gQ
      refine Zb2 ?_;exact⟨by rw[<-gQ];rfl,Hc.kept⟩
    rw[zab Ia]at gQ;refine Zb2 ?_;exact ak (i+1) tR ⟨⟨oM,gQ⟩,Hc.eF⟩ oM
  rw[Pn oM]at gQ;refine Zb1 ?_;exact⟨by rw[<-gQ];rfl,H6.kept⟩
theorem J2 {cols:List bL} {r:List aI} {vc vr:Value} (hc:aM w vc aR 7 cols) (hr:aM w vr aj 3 r) (hf:jX r) (hT:pO w):aN prog 93 [vc,vr] w λv w'=>v=I (gD cols r)/\Kept noB w w':=by
 have Qw:=hc;have hrr:=hr;obtain⟨A,m,rfl,⟨hm,qo⟩,hA⟩:=hc;obtain⟨C,n,rfl,⟨hn,Zp⟩,hC⟩:=hr;have H:=Sep.aL w;refine dS func93 rfl rfl rfl rfl ?_;refine Sr (dz H (cs:=[.slice A cols.length m]) rfl (h:=λb0 w2 H2 k0=>?_));refine Za6 ?_;refine Qn (Cp rfl (λJf=>?_) (λJf=>?_))
 .have iF:=Jf
  refine Zb1 ?_;exact⟨by unfold gD;rw[zac oM];rfl,H2.kept⟩
 have hlen:cols.length=r.length:=oM;refine Zb2 ?_;have J9:=H2.obj At0;refine aF H2 (ah5 (f:=143) (fs:=[]) (cs:=[.pointer (some ⟨b0,0,none⟩)]) (hrr.keep H2.kept) hlen (λi a c w' ha hcg hk=>ae9 c (hk.get J9 id) ((Qw.keep H2.kept).keep hk) ha (hf c (zao hcg)) ((hT.keep H2.kept).keep hk))) (h:=λwa Ha ka=>?_);refine Zb1 ?_;exact⟨by rw[MF hlen];rfl,Ha.kept⟩
end
end Go.Proofs.YtkfpleidaoaonaaGreatDoor
namespace Go.Proofs.YtkfpleidaoaonaaGreatDoor
open Go Go.Mw Go.Lib
set_option maxRecDepth 4000
attribute [local irreducible] FW FL FG FGn gu gy dh gH Qfn Gives
theorem ah6 {cols:List bL} {l:List bJ} (h:(jJ cols l).2=0):l.length<=64/\∃t,runT cols [] l=some [t]/\jJ cols l=(t,0):=by
 unfold jJ at h |-
 split at h
 .cases h
 rename_i h64;rw[zab h64];refine⟨oM,?_⟩
 split at h
 .rename_i t ht;exact⟨t,ht,by first | rfl | rw[ht]⟩
 cases h
theorem afa {cols:List bL} {ts ts':List dJ} {x:bJ} (h:stepT cols ts x=some ts') (hk:x.kind=1): ∃i,oC cols x.n=some i:=by
 cases hf:oC cols x.n with
 | some i=>exact⟨i,rfl⟩
 | none=>
  unfold stepT at h;dsimp only at h
  split at h
  .cases h
  rw[zac ((D8 _).2 oM)]at h;unfold lW at h;rw[zac hk,hf]at h;cases h
attribute [local irreducible] jJ gD
section
variable {w:Wd}
end
end Go.Proofs.YtkfpleidaoaonaaGreatDoor
namespace Go.Proofs.YtkfpleidaoaonaaGreatDoor
open Go Go.Mw Go.Lib
set_option maxRecDepth 4000
attribute [local irreducible] FW FL FG FGn gu gy dh gH Qfn Gives
def resE (cols:List bL) (r:List aI) (st:List aI) (x:bJ):Option aI:=
 if eY x.kind=0 then some (CB cols r x)else lS x.kind (st.getD (st.length-eY x.kind) cell0) (st.getD (st.length-1) cell0)
theorem Lm (cols:List bL) (r:List aI) (st:List aI) (x:bJ):FU cols r st x=(resE cols r st x).map λc=>st.take (st.length-eY x.kind)++[c]:=rfl
theorem MJ {cols:List bL} {r:List aI} {x:bJ} {ts ts':List dJ} {st:List aI} (hr:gD cols r=0) (hf:jX r) (hx:fits x.n) (hT:Typed ts st) (hs:stepT cols ts x=some ts'):
    jM x=true/\eY x.kind<=st.length/\∀c,resE cols r st x=some c->Typed ts' (st.take (st.length-eY x.kind)++[c]):=by
  have hm:jM x=true:=by
    cases h:jM x with
    | true=>rfl
    | false=>rw[YE (.inl h)]at hs;cases hs
  have tF:=ES hm
  have qQ:eY x.kind<=st.length:=by
    rw[<-hT.1];refine Classical.byContradiction λh=>?_;rw[Lj (.inr oM)]at hs;cases hs
  obtain⟨he,hg⟩:=abx hr hf hx hT hs;refine⟨hm,qQ,λc hc=>?_⟩;rw[Lm,hc,tF]at he;rw[tF]at hg;obtain⟨c',h1,h2⟩:=zbb.1 he.symm;have:=List.append_cancel_left h2;injection this with h3
  subst h3;exact(hg _ h1).1
attribute [local irreducible] jJ gD jM lS oC
section
variable {w:Wd}
theorem ah7 {cols:List bL} {l:List bJ} {r:List aI} {vc vl vr:Value} (hc:aM w vc aR 7 cols) (hl:aM w vl aD 3 l) (hr:aM w vr aj 3 r) (hf:jX r) (hx: ∀x∈l,fits x.n) (hT:pO w):
    aN Tryz.prog 90 [vc,vl,vr] w λv w'=>v=.tuple #[agg (aj (oL cols l r).1),I (oL cols l r).2]/\Kept noB w w':=by
  have Qw:=hc;have MR:=hl;have hrr:=hr;obtain⟨A,m,rfl,⟨hm,qo⟩,hA⟩:=hc;obtain⟨C,n,rfl,⟨hn,Zp⟩,hC⟩:=hl;obtain⟨D,q,rfl,⟨hq,hq'⟩,hD⟩:=hr;have H:=Sep.aL w;obtain⟨res,ay⟩: ∃res,res=oL cols l r:=⟨_,rfl⟩;rw[<-ay];unfold oL at ay;refine VL Tryz.func90 rfl rfl rfl rfl ?_;refine Sr (aW H (h:=λb6 w2 H2 k1=>?_));refine Zb3 ?_;refine aF H2 (PD (Qw.keep H2.kept) (MR.keep H2.kept) hx (hT.keep H2.kept)) (h:=λw7 H7 k6=>?_);refine Zb3 ?_;refine aW H7 (h:=λb8 wa Ha ka=>?_);refine au Ha (h:=λwb Hb=>?_);refine Za3 ?_;refine Qn (Cp rfl (λIa=>?_) (λIa=>?_))
  . have iq:res=(cell0,(jJ cols l).2):=by rw[ay,zac Ia]
    refine Sr (Vb (aj cell0) ?_);refine Mv ?_;refine au Hb (h:=λwc Hc=>?_);refine Am ?_;refine Qn (Rs (aX (h:=?_)));exact⟨_,jh Hc,by rw[iq];rfl,Hc.kept⟩
  have apk:(jJ cols l).2=0:=by simpa using Ia
  obtain⟨h64,t,jG,htt⟩:=ah6 apk;rw[zab (by simpa using apk)]at ay;refine Zb2 ?_;refine aF Hb (J2 (Qw.keep Hb.kept) (hrr.keep Hb.kept) hf (hT.keep Hb.kept)) (h:=λwd Hd kb=>?_);refine Za3 ?_;refine Qn (Cp rfl (λIb=>?_) (λIb=>?_))
  . have iq:res=(cell0,gD cols r):=by rw[ay,zac Ib]
    refine Sr (Vb (aj cell0) ?_);refine Mv ?_;refine au Hd (h:=λwe He=>?_);refine Am ?_;refine Qn (Rs (aX (h:=?_)));exact⟨_,jh He,by rw[iq];rfl,He.kept⟩
  have yU:gD cols r=0:=by simpa using Ib
  rw[zab (by simpa using yU)]at ay;obtain⟨hlen,_⟩:=ah4 yU;refine Zb0 ?_;refine aW Hd (h:=λb11 wf Hf kc=>?_);refine Zb3 ?_;have Hg:=Sep.lZ ((Hf.bF.aJ).firsts (l:=[_,_])) 52 3 aj;refine aP (λx:Nat×List aI×Value=>[(0,.slice A cols.length m),(2,.slice D r.length q),(6,.pointer (some ⟨b6,0,none⟩)),(11,.pointer (some ⟨b11,0,none⟩)),(35,.slice C l.length n),(36,I l.length),(37,I x.1)]) (λx w'=>(x.1<=l.length/\(∃ts,Typed ts x.2.1/\runT cols ts (l.drop x.1)=some [t])/\x.2.1.length<=x.1/\DT cols r x.2.1 (l.drop x.1)=DT cols r [] l)/\Sep w noB [bW 52 3 aj x.2.2 x.2.1,blk b11 [x.2.2] 208,blk b6 (aj cell0) 52] w') (λx _=>l.length-x.1) (0,[],.slice none 0 0) tR ⟨⟨zak _,⟨[],Typed.nil,jG⟩,zbf _,rfl⟩,Hg⟩ (λx τ wg hI=>?_);obtain⟨i,st,v0⟩:=x;obtain⟨⟨hi,⟨ts,hTy,hts⟩,Qi,gQ⟩,Hg⟩:=hI;dsimp only at hi hTy hts Qi gQ Hg;obtain⟨B,cb,rfl,Ul,hB⟩:=Sep.eO Hg At0
  try simp only[dA,like,bB,bY]
  refine Za1 ?_;refine Qn (fC (Cp rfl (λIc=>?_) (λIc=>?_)))
  . have bX:i<l.length:=oM
    obtain⟨x,Kk⟩:=get_some bX
    have hdr:l.drop i=x::l.drop (i+1):=by
      rw[zbq bX];rw[zaa bX]at Kk;injection Kk with Kk;rw[Kk]
    rw[hdr,runT]at hts;rw[hdr,DT,Lm]at gQ;obtain⟨ts',Bh,akU⟩:=zdx.1 hts;have hfx:=hx x (zao Kk);obtain⟨Zq,hkn,hg⟩:=MJ yU hf hfx hTy Bh;obtain⟨jH,ana⟩:=TQ Zq;have hk2:=TP x.kind;refine Zb2 ?_;refine aW Hg (h:=λb13 wh Hh kd=>?_);refine au Hh (h:=λwi Hi=>?_);refine Zb2 ?_;refine aF Hi (acQ x.kind) (h:=λwj Hj ke=>?_);obtain⟨F0,fZ,iK,aQ⟩:=Hj.focus At2;refine aS (VX fZ hkn Ul oM) rfl rfl (λv' wk hv=>?_);obtain⟨rfl,eB,F1,tC,hs⟩:=hv;have Hk:=aQ _ F1 _ eB tC hs;have Qk:(st.take (st.length-eY x.kind)).length=st.length-eY x.kind:=by rw[zag];omega
    refine Za9 ?_;refine Qn (Cp rfl (λId=>?_) (λId=>?_))
    . have Ck: ¬eY x.kind=0:=oM
      have hk7:7<=x.kind:=by
        refine Classical.byContradiction λh=>Ck (xH.2 oM)
      obtain⟨a,ha⟩:=get_some (l:=st) (i:=st.length-eY x.kind) oM;obtain⟨b,hb⟩:=get_some (l:=st) (i:=st.length-1) oM;obtain⟨ta,hta⟩:=get_some (l:=ts) (i:=st.length-eY x.kind) (by have:=hTy.1;omega);obtain⟨tb,ZO⟩:=get_some (l:=ts) (i:=st.length-1) (by have:=hTy.1;omega);have oa:=hTy.2 _ ta a hta ha;have ob:=hTy.2 _ tb b ZO hb;have hrg:resE cols r st x=lS x.kind a b:=by unfold resE;rw[zab Ck,qg ha,qg hb]
      have Qv:=YP (d:=cell0) hk7 hkn;rw[qg ha,qg hb]at Qv;refine Zb3 ?_;refine aS (ah3 (Pz (mP Hk At1) Ul (Sep.ah1 Hk At1) hkn) Qv hk7 ana oa.2 ob.2) rfl rfl (λv' wl hv=>?_);obtain⟨⟨cm,rfl,hcm⟩,eB⟩:=hv;have Hl:=Hk.keep eB;refine Zb3 ?_;refine aW Hl (h:=λb16 wm Hm kf=>?_);refine au Hm (h:=λwn Hn=>?_);refine Za3 ?_;refine Qn (Cd rfl (λIe=>?_) (λIe=>?_))
      . have qR:lS x.kind a b=none:=by
          cases h:lS x.kind a b with
          | none=>rfl
          | some y=>rw[h]at Ie;cases Ie
        rw[hrg,qR]at gQ;rw[<-gQ]at ay;have iq:res=(cell0,50):=ay;refine Sr (Vb (aj cell0) ?_);refine au Hn (h:=λwo Ho=>?_);refine Am ?_;refine Qn (Rs (dF (dF (fG (mW (dF (fG (aX (h:=?_)))))))));exact⟨_,jh Ho,by rw[iq];rfl,Ho.kept⟩
      obtain⟨y,hy⟩: ∃y,lS x.kind a b=some y:=by
        cases h:lS x.kind a b with
        | none=>rw[h]at Ie;cases Ie
        | some y=>exact⟨y,rfl⟩
      have hcy:=hcm y hy;subst hcy;have hrv:resE cols r st x=some cm:=by rw[hrg,hy]
      refine Zb1 ?_;refine Bs Hn ([cm].flatMap aj) (λbs wp Hp kg=>?_);obtain⟨F0,fZ,iK,aQ⟩:=Hp.focus At4;have hRc:=(mP Hp At3).cut (st.length-eY x.kind);have Kl:aM _ (.slice (some ⟨bs,0,none⟩) 1 1) aj 3 [cm]:=⟨some ⟨bs,0,none⟩,1,rfl,⟨sM,oM⟩,Sep.qJ Hp At0 rfl⟩;refine aS (zF (l:=st.take (st.length-eY x.kind)) (by rw[Qk];exact fZ) hRc Kl sM (by simp;omega)) rfl rfl (λv' wq hv=>?_);obtain⟨v2,rfl,_,eB,F1,tC,hs⟩:=hv;have Hq:=((aQ _ F1 _ eB tC hs).fF).dG;refine Zb2 ?_;exact ak (i+1,st.take (st.length-eY x.kind)++[cm],v2) tR ⟨⟨dO,⟨ts',hg _ hrv,akU⟩,by dsimp only;rw[zad,Qk];simp;omega,by rw[hrv]at gQ;exact gQ⟩,(Hq.mM.aJ.bF).firsts (l:=[_,_,_])⟩ dO
    have Ck:eY x.kind=0:=oM;have hrg:resE cols r st x=some (CB cols r x):=zac Ck;have hk6:x.kind<=6:=by have:=xH.1 Ck;omega
    refine Za4 ?_;refine Qn (Cp rfl (λIf=>?_) (λIf=>?_))
    . obtain⟨ci,hci⟩:=afa Bh If
      have avs:=VQ hci;obtain⟨c0,Qj⟩:=get_some (l:=r) (i:=ci) oM;have zI:CB cols r x=c0:=by unfold CB;rw[zac If,hci,zdk,qg Qj]
      have hrv:resE cols r st x=some c0:=by rw[hrg,zI]
      refine Zb4 ?_;refine aF Hk (find_ok x.n (Qw.keep Hk.kept)) (h:=λwr Hr kh=>?_);rw[hci,show Fu (some ci)=((ci:Nat):Int)from rfl];refine Vv (Gives.mK rfl rfl hD (jk Qj)) (Vv (Gives.jQ rfl Hr hD Qj) ?_);refine Bs Hr ([c0].flatMap aj) (λbs ws Hs ki=>?_);obtain⟨F0,fZ,iK,aQ⟩:=Hs.focus At3;have hRc:=(mP Hs At2).cut (st.length-eY x.kind);have Kl:aM _ (.slice (some ⟨bs,0,none⟩) 1 1) aj 3 [c0]:=⟨some ⟨bs,0,none⟩,1,rfl,⟨sM,oM⟩,Sep.qJ Hs At0 rfl⟩;refine aS (zF (l:=st.take (st.length-eY x.kind)) (by rw[Qk];exact fZ) hRc Kl sM (by simp;omega)) rfl rfl (λv' wt hv=>?_);obtain⟨v2,rfl,_,eB,F1,tC,hs⟩:=hv;have Ht:=((aQ _ F1 _ eB tC hs).bN).dG;refine Zb2 ?_;exact ak (i+1,st.take (st.length-eY x.kind)++[c0],v2) tR ⟨⟨dO,⟨ts',hg _ hrv,akU⟩,by dsimp only;rw[zad,Qk];simp;omega,by rw[hrv]at gQ;exact gQ⟩,(Ht.mX.aJ.bF).firsts (l:=[_,_,_])⟩ dO
    refine Za4 ?_;refine Qn (Cp rfl (λIg=>?_) (λIg=>?_))
    . have zI:CB cols r x=dW:=by unfold CB;rw[zab oM,zac Ig]
      have hrv:resE cols r st x=some dW:=by rw[hrg,zI]
      refine Zb0 ?_;refine Vb (aj dW) ?_;refine Bs Hk ([dW].flatMap aj) (λbs wu Hu kj=>?_);obtain⟨F0,fZ,iK,aQ⟩:=Hu.focus At3;have hRc:=(mP Hu At2).cut (st.length-eY x.kind);have Kl:aM _ (.slice (some ⟨bs,0,none⟩) 1 1) aj 3 [dW]:=⟨some ⟨bs,0,none⟩,1,rfl,⟨sM,oM⟩,Sep.qJ Hu At0 rfl⟩;refine aS (zF (l:=st.take (st.length-eY x.kind)) (by rw[Qk];exact fZ) hRc Kl sM (by simp;omega)) rfl rfl (λv' wv hv=>?_);obtain⟨v2,rfl,_,eB,F1,tC,hs⟩:=hv;have Hv:=((aQ _ F1 _ eB tC hs).bN).dG;refine Zb2 ?_;exact ak (i+1,st.take (st.length-eY x.kind)++[dW],v2) tR ⟨⟨dO,⟨ts',hg _ hrv,akU⟩,by dsimp only;rw[zad,Qk];simp;omega,by rw[hrv]at gQ;exact gQ⟩,(Hv.mX.aJ.bF).firsts (l:=[_,_,_])⟩ dO
    have zI:CB cols r x=⟨false,x.n,x.s⟩:=by unfold CB;rw[zab oM,zab oM]
    have hrv:resE cols r st x=some ⟨false,x.n,x.s⟩:=by rw[hrg,zI]
    refine Zb4 ?_;refine Vb (aj ⟨false,x.n,x.s⟩) ?_;refine Bs Hk ([(⟨false,x.n,x.s⟩:aI)].flatMap aj) (λbs ww Hw kk=>?_);obtain⟨F0,fZ,iK,aQ⟩:=Hw.focus At3;have hRc:=(mP Hw At2).cut (st.length-eY x.kind);have Kl:aM _ (.slice (some ⟨bs,0,none⟩) 1 1) aj 3 [(⟨false,x.n,x.s⟩:aI)]:=⟨some ⟨bs,0,none⟩,1,rfl,⟨sM,oM⟩,Sep.qJ Hw At0 rfl⟩;refine aS (zF (l:=st.take (st.length-eY x.kind)) (by rw[Qk];exact fZ) hRc Kl sM (by simp;omega)) rfl rfl (λv' wx hv=>?_);obtain⟨v2,rfl,_,eB,F1,tC,hs⟩:=hv;have Hx:=((aQ _ F1 _ eB tC hs).bN).dG;refine Zb2 ?_;exact ak (i+1,st.take (st.length-eY x.kind)++[⟨false,x.n,x.s⟩],v2) tR ⟨⟨dO,⟨ts',hg _ hrv,akU⟩,by dsimp only;rw[zad,Qk];simp;omega,by rw[hrv]at gQ;exact gQ⟩,(Hx.mX.aJ.bF).firsts (l:=[_,_,_])⟩ dO
  have qp:i=l.length:=oM;rw[qp,zff,runT]at hts;rw[qp,zff,DT]at gQ;rw[<-gQ]at ay;have asT:ts=[t]:=by injection hts
  have h1:st.length=1:=by rw[<-hTy.1,asT];rfl
  obtain⟨c,Je⟩:=List.length_eq_one_iff.1 h1;have hg0:st[0]? =some c:=by rw[Je];rfl
  have iq:res=(c,0):=by rw[ay,Je];rfl
  refine Zb2 ?_;refine Vv (Gives.mK (i:=0) rfl rfl hB oM) (Vv (Gives.Lh (i:=0) rfl hB hg0) ?_);refine au Hg (h:=λwy Hy=>?_);refine Am ?_;refine Qn (fu (aX (h:=?_)));exact⟨_,jh Hy,by rw[iq];rfl,Hy.kept⟩
end
end Go.Proofs.YtkfpleidaoaonaaGreatDoor
namespace Go.Proofs.YtkfpleidaoaonaaGreatDoor
open Go Go.Mw Go.Lib
set_option maxRecDepth 4000
/-! A row that is sorted,then rid of what comes twice. -/
section
variable {w:Wd}
end
attribute [local irreducible] FW FL FG FGn gu gy dh gH Qfn Gives
section
variable {w:Wd}
end
end Go.Proofs.YtkfpleidaoaonaaGreatDoor
namespace Go.Mw
open Go.RowKit
section
variable {P:Program} {ρ:Od->Value} {ty:Td} {w:Wd} {x y:Od}
theorem Gives.ah8 {src dst t e:Td} {n bytes cells b:Nat} (hs:P.underlying src=some (.pointer t)) (hd:P.underlying dst=some .unsafePointer) [hz:Cells P t n bytes] (hn:n≠0) (Q7:w.shape? b=some (e,cells)) (hc:0<cells) (hx:ρ x=.pointer (some ⟨b,0,none⟩)):
    Gives P ρ (.convert src dst x) ty w (.pointer (some ⟨b,0,none⟩)) w:=λ_ _ _ _=>by
  obtain⟨j,ht,uD⟩:=zbb.1 hz.size;simp only[Prod.mk.injEq]at uD;have:=Lib.run_to_unsafe (P:=P) w ⟨b,0,none⟩ hs hd ht (by rw[uD.1];exact hn) Q7 hc;simp only[execOp,hx,zbk,this,zas,zbn]
theorem Gives.aby {src dst u e:Td} {n bytes cells b:Nat} (hs:P.underlying src=some .unsafePointer) (hd:P.underlying dst=some (.pointer u)) [hz:Cells P u n bytes] (Q7:w.shape? b=some (e,cells)) (hl:liesAt P P.depth e (cells/P.cellsOf e) 0 u 1=true) (hx:ρ x=.pointer (some ⟨b,0,none⟩)):
    Gives P ρ (.convert src dst x) ty w (.pointer (some ⟨b,0,none⟩)) w:=λ_ _ _ _=>by
  obtain⟨j,hu,_⟩:=zbb.1 hz.size;have:=Lib.run_from_unsafe (P:=P) w ⟨b,0,none⟩ hs hd hu Q7 hl;simp only[execOp,hx,zbk,this,zas,zbn]
theorem Gives.amA {T U te:Td} {n bytes b:Nat} (hp:P.underlying T=some (.pointer te)) [hz:Cells P te n bytes] (hx:ρ x=.pointer (some ⟨b,0,none⟩)) (hy:ρ y=.pointer (some ⟨b,0,none⟩)) (hg: ∀x y,(eqGuard .neq T x y (.pointer (some ⟨b,0,none⟩)) (.pointer (some ⟨b,0,none⟩))).run P w=.ok () w):
    Gives P ρ (.binOp .neq T x y U) ty w (.bool false) w:=
  .bin hx hy hg (by
    obtain⟨j,ht,_⟩:=zbb.1 hz.size;exact Lib.run_neq_ptr_same (P:=P) w ⟨b,0,none⟩ hp ht)
class PE (P:Program) (f:FuncId):Prop where
 run: ∀v w,(callFunc f #[v]).run P w=.ok (.value v) w
theorem Gives.ah9 {σ:St} {f:FuncId} [h:PE P f] {ats:Array Td} {v:Value} (hx:evF σ x=v):Gives P (evF σ) (.call {callee:=.value (.func f),args:= #[x],argTypes:=ats}) ty w v w:=λ_ _ _ _=>by
 have e:(#[]++ #[x].map (evF σ)++ #[]:Array Value)= #[v]:=by simp[hx]
 show(callFunc f (#[]++ #[x].map (evF σ)++ #[])).run P w=_
 rw[e,h.run]
theorem TS {w:Wd} {b:Nat} {cs:LV} {e:Td} (h:w.heap[b]? =some (.cells cs.toArray e (0,0))):w.shape? b=some (e,cs.length):=by
 unfold World.shape?;rw[h];simp
theorem Gives.sliceData {ts:Array Td} {v:Value} {w':Wd} (h:(Builtin.unsafeSliceData_ ts ty #[ρ x]).run P w=.ok v w'):Gives P ρ (.call {callee:=.builtin .unsafeSliceData,args:= #[x],argTypes:=ts}) ty w v w':=λ_ _ _ _=>by
 simp only[execOp,resolve,invoke,builtin,zbk,zbn,zas,zcl,zax,zcr,h]
theorem Gives.unsafeStr {ts:Array Td} {v:Value} {w':Wd} (h:(Builtin.unsafeString_ ts ty #[ρ x,ρ y]).run P w=.ok v w'):Gives P ρ (.call {callee:=.builtin .unsafeString,args:= #[x,y],argTypes:=ts}) ty w v w':=λ_ _ _ _=>by
 simp only[execOp,resolve,invoke,builtin,zbk,zbn,zas,zcl,zax,zcr,h]
end
end Go.Mw
namespace Go.Proofs.YtkfpleidaoaonaaGreatDoor
open Go Go.Mw Go.Lib
set_option maxRecDepth 4000
attribute [local irreducible] FW FL FG FGn gu gy dh gH Qfn Gives
instance:PE Tryz.prog 328:=⟨λv w=>by
 rw[run_callFunc_extern Tryz.func328 kR kR kR (e:=Extern.AbiNoEscape.same) kR,Lib.run_noEscape];rfl⟩
def aA (b:Nat):Value:=.pointer (some ⟨b,0,none⟩)
def y7 (b:Nat) (l:L8):HP:=exH λx:Value×Value=>star (jI ((x.1=.pointer none\/x.1=aA b)/\(l=[]->x.2=.slice none 0 0))) (star (blk b [x.1,x.2] 259) (oD 5 x.2 l))
section
variable {w w0:Wd} {S:NP} {rs:List HP}
theorem Sep.PG {b:Nat} {l:L8} (H:Sep w0 S (y7 b l::rs) w): ∃a v,((a=.pointer none\/a=aA b)/\(l=[]->v=.slice none 0 0))/\Sep w0 S (blk b [a,v] 259::oD 5 v l::rs) w:=by
 obtain⟨x,H1⟩:=H.ex0;obtain⟨h,H2⟩:=H1.dG.tJ;exact⟨x.1,x.2,h,H2.dG⟩
theorem Sep.TT {b:Nat} {l:L8} {a v:Value} (ha:(a=.pointer none\/a=aA b)/\(l=[]->v=.slice none 0 0)) (H:Sep w0 S (blk b [a,v] 259::oD 5 v l::rs) w):Sep w0 S (y7 b l::rs) w:=
 Sep.uW (a,v) (Sep.bI (Sep.jT ha (Sep.bI H)))
theorem Sep.ako {b:Nat} (H:Sep w0 S (blk b [.pointer none,.slice none 0 0] 259::rs) w):Sep w0 S (y7 b []::rs) w:=
 Sep.TT ⟨.inl rfl,λ_=>rfl⟩ (H.Yz 5).aJ
theorem YR {b:Nat} {v:Value} {F:NP} (hp:(blk b [.pointer none,v] 259).ok F w):aN Tryz.prog 250 [aA b] w λr w'=>r=.tuple #[]/\Turn F (blk b [aA b,v] 259) w w':=by
 have H:=Sep.dZ hp;refine eP Tryz.func250 rfl rfl rfl rfl ?_;refine Za5 ?_;refine Qn (Cd rfl (λLB=>?_) (λLB=>?_))
 .refine Zb2 ?_
  refine Vv (Gives.ah8 (t:=259) kR kR dC (TS (H.obj At0)) sM rfl) ?_;refine Vv (Gives.ah9 rfl) (Vv (Gives.aby (u:=259) kR kR (TS (H.obj At0)) kR rfl) ?_);refine Zb2 ?_;refine bM H (h:=λwa Ha=>?_);refine Zb0 ?_;exact⟨rfl,Ha.turn⟩
 exact zat LB sM
theorem abz {b:Nat} {v:Value} {F:NP} (hp:(blk b [aA b,v] 259).ok F w):aN Tryz.prog 250 [aA b] w λr w'=>r=.tuple #[]/\Turn F (blk b [aA b,v] 259) w w':=by
 have H:=Sep.dZ hp;refine eP Tryz.func250 rfl rfl rfl rfl ?_;refine Za5 ?_;refine Qn (Cd rfl (λLB=>?_) (λLB=>?_))
 .exact zat LB (by simp[aA])
 refine Zb5 ?_;refine Vv (Gives.amA (te:=259) kR rfl rfl (λ_ _=>rfl)) (Qn ?_);refine Cd rfl (λIa=>?_) (λIa=>?_)
 .cases Ia
 refine Zb0 ?_;exact⟨rfl,H.turn⟩
theorem D9 {b:Nat} {a v:Value} {F:NP} (ha:a=.pointer none\/a=aA b) (hp:(blk b [a,v] 259).ok F w):aN Tryz.prog 250 [aA b] w λr w'=>r=.tuple #[]/\Turn F (blk b [aA b,v] 259) w w':=by
 rcases ha with rfl | rfl
 .exact YR hp
 exact abz hp
theorem xI {b:Nat} {l:L8} {F:NP} (c:UInt8) (hp:(y7 b l).ok F w) (hl:l.length<=100000000):aN Tryz.prog 324 [aA b,B c] w λr w'=>r=.nilIface/\Turn F (y7 b (l++[c])) w w':=by
 obtain⟨a,v,ha,H⟩:=Sep.PG (Sep.dZ hp);refine dS Tryz.func324 rfl rfl rfl rfl ?_;refine Zb2 ?_;obtain⟨F0,fZ,iK,aQ⟩:=H.focus At0;refine aS (D9 ha.1 fZ) rfl rfl (λv' w4 hv=>?_);obtain⟨rfl,eB,F1,hq,hs⟩:=hv;have H4:=aQ _ F1 _ eB hq hs;refine Zb6 ?_;refine Bs H4 ([c].map B) (λbs wa Ha ka=>?_);refine sK Ha (news:=[c]) At1 (by simp;omega) (h:=?_);intro v2 wb Hb;obtain⟨A2,c2,rfl,_⟩:=Sep.zq Hb At1;refine Zb2 ?_;refine bM Hb (h:=λwc Hc=>?_);refine Zb1 ?_;exact⟨rfl,(Sep.TT ⟨.inr rfl,λe=>zat e sM⟩ Hc).turn⟩
theorem yR {b:Nat} {l news:L8} {F:NP} (iF:news≠[]) (hp:(y7 b l).ok F w) (hl:l.length+news.length<=100000000):aN Tryz.prog 181 [aA b,str news] w λr w'=>r=.tuple #[I news.length,.nilIface]/\Turn F (y7 b (l++news)) w w':=by
 obtain⟨a,v,ha,H⟩:=Sep.PG (Sep.dZ hp);refine dS Tryz.func181 rfl rfl rfl rfl ?_;refine Zb3 ?_;obtain⟨F0,fZ,iK,aQ⟩:=H.focus At0;refine aS (D9 ha.1 fZ) rfl rfl (λv' w5 hv=>?_);obtain⟨rfl,eB,F1,hq,hs⟩:=hv;have H5:=aQ _ F1 _ eB hq hs;refine Zb6 ?_;refine Pj H5 (news:=news) At1 oM (h:=?_);intro v2 wa Ha;obtain⟨A2,c2,rfl,_⟩:=Sep.zq Ha At1;refine Zb2 ?_;refine bM Ha (h:=λwb Hb=>?_);refine Zb4 ?_;exact⟨rfl,(Sep.TT ⟨.inr rfl,λe=>zat (List.append_eq_nil_iff.1 e).2 iF⟩ Hb).turn⟩
theorem YS {w:Wd} {F:NP} {g n:Nat} (hF:F g):Kept F w (w.freeze ⟨g,0,none⟩ n):=by
 unfold World.freeze
 split
 .exact Kept.refl _ _
 refine⟨rfl,rfl,rfl,sM,λk hk hn=>?_⟩;rw[zdb,zab (λe=>hn (by rw[<-e];exact hF))]
theorem YT {b:Nat} {l:L8} {F:NP} (hp:(y7 b l).ok F w) (hl:l.length<=100000000) (h0:l≠[]):aN Tryz.prog 182 [aA b] w λr w'=>r=str l/\Turn F emp w w':=by
 obtain⟨a,v,ha,H⟩:=Sep.PG (Sep.dZ hp);obtain⟨A,c,rfl,qQ,_,ac0⟩:=Sep.zq H At1;have hlen:l.length≠0:=λe=>h0 (zbi e);refine eP Tryz.func182 rfl rfl rfl rfl ?_;refine Zb1 ?_;refine Ds (λEh w4 H4=>?_);refine Zb4 ?_;refine Gm Eh 5 ?_;refine Zb4 ?_;obtain⟨F0,fZ,iK,aQ⟩:=H4.focus At1;have yU:=Sep.rowAt H4 At1
 obtain⟨g,hA,hF0,Q7⟩: ∃g,A=some ⟨g,0,none⟩/\F0 g/\w4.shape? g=some (5,c):=by
  rcases fZ.1.2 with⟨hv,h1⟩ | ⟨g,cap,cur,hv,_,hh,ZA,_,zV,_⟩
  .exact zat h1 hlen
  injection hv with e1 e2 e3
  refine⟨g,e1,(fZ.2 g).2 (by rw[e1];rfl),?_⟩;unfold World.shape?;rw[hh,e3];simp only[zV,Nat.mul_one]
 subst hA;refine Av (C:=λv' w'=>v'=aA g/\w'=w4) Eh 4 [(9,true),(8,false),(7,true),(6,true),(5,true)] rfl kR ⟨_,_,Gives.sliceData (Lib.run_unsafeSliceData_row _ _ _ ⟨g,0,none⟩ l.length c oM),rfl,rfl⟩ kR kR (λv' wa hv=>?_);obtain⟨rfl,rfl⟩:=hv;have Ha:=H4;refine⟨ah (aY Ha (h:=ah (ah (ah (aK))))),?_⟩
 refine Av (C:=λv' w'=>v'=str l/\w'=wa.freeze ⟨g,0,none⟩ l.length) Eh 10 [] rfl kR ⟨_,_,Gives.unsafeStr (Lib.run_unsafeString_row (P:=Tryz.prog) _ _ _ _ 5 kR kR g c Q7 l h0 qQ oM (λj x hj=>by
  obtain⟨ad,e1,hc⟩:=yU.at_ oM;injection e1 with e1
  subst e1;exact hc j _ (by rw[zcf,hj];rfl))),rfl,rfl⟩ kR kR (λv' wb hv=>?_)
 obtain⟨rfl,rfl⟩:=hv;have Hb:=aQ _ (λ_=>False) emp (YS (n:=l.length) hF0) (ZR (λ_=>id)) (λb hb=>hb.elim);refine⟨sT,?_⟩;refine Zb1 ?_;exact⟨rfl,Hb.aJ.first.turn⟩
theorem abA {b:Nat} {F:NP} (hp:(y7 b []).ok F w):aN Tryz.prog 182 [aA b] w λr w'=>r=str []/\Turn F emp w w':=by
 obtain⟨a,v,ha,H⟩:=Sep.PG (Sep.dZ hp);have hv:=ha.2 rfl;subst hv;refine eP Tryz.func182 rfl rfl rfl rfl ?_;refine Zb1 ?_;refine Ds (λEh w4 H4=>?_);refine Zb4 ?_;refine Gm Eh 5 ?_;refine Zb4 ?_;refine Av (C:=λv' w'=>v'=.pointer none/\w'=w4) Eh 4 [(9,true),(8,false),(7,true),(6,true),(5,true)] rfl kR ⟨_,_,Gives.sliceData (Lib.run_unsafeSliceData_nil _ _ _ 0 0),rfl,rfl⟩ kR kR (λv' wa hv=>?_);obtain⟨rfl,rfl⟩:=hv;have Ha:=H4;refine⟨ah (aY Ha (h:=ah (ah (ah (aK))))),?_⟩;refine Av (C:=λv' w'=>v'=str []/\w'=wa) Eh 10 [] rfl kR ⟨_,_,Gives.unsafeStr (Lib.run_unsafeString_none (P:=Tryz.prog) _ _ _ _ none),rfl,rfl⟩ kR kR (λv' wb hv=>?_);obtain⟨rfl,rfl⟩:=hv;have Hb:=Ha;refine⟨sT,?_⟩;refine Zb1 ?_;exact⟨rfl,⟨Hb.kept,λ_=>False,ZR (λ_=>id),λb hb=>hb.elim⟩⟩
theorem E9 {b:Nat} {l:L8} {F:NP} (hp:(y7 b l).ok F w) (hl:l.length<=100000000):aN Tryz.prog 182 [aA b] w λr w'=>r=str l/\Turn F emp w w':=by
 by_cases h:l=[]
 .subst h;exact abA hp
 exact YT hp hl h
end
end Go.Proofs.YtkfpleidaoaonaaGreatDoor
