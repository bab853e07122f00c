/-
 A line of a plan's text,walked.
-/
import Derived.Test.YtkfpleidaoaonaaGreatDoorNu1
import Derived.Test.YtkfpleidaoaonaaGreatDoorNu3
import Derived.Test.YtkfpleidaoaonaaGreatDoorNu19
import Derived.Test.YtkfpleidaoaonaaGreatDoorNu24
import Derived.Test.YtkfpleidaoaonaaGreatDoorNu12
import Derived.Test.YtkfpleidaoaonaaGreatDoorNu14
import Derived.Test.YtkfpleidaoaonaaGreatDoorNu22
set_option linter.unusedVariables false
set_option linter.unusedSimpArgs false
namespace Go.Proofs.YtkfpleidaoaonaaGreatDoor
open Go Go.Mw Go.Lib Tryz
set_option maxRecDepth 4000
attribute [local irreducible] FW FL FG FGn gu gy dh gH Qfn Gives
theorem Tn: ∀s:L8,Lib.index s [32]=match s.idxOf? 32 with | some i=>(i:Int) | none=> -1
 | []=>rfl
 | c::t=>by
  have ih:=Tn t
  by_cases h:c=32
  .subst h
   have e:List.idxOf? 32 (32::t)=some 0:=by unfold List.idxOf?;rw[zgg];rfl
   rw[NT,e];rfl
  have hb:(c==32)=false:=by simpa using h
  have e:List.idxOf? 32 (c::t)=(List.idxOf? 32 t).map (· +1):=by unfold List.idxOf?;rw[zgg,hb];rfl
  rw[LJ h,ih,e];cases List.idxOf? 32 t with
  | none=>rfl
  | some i=>
   show(if(i:Int)= -1 then(-1:Int)else(i:Int)+1)=((i+1:Nat):Int)
   rw[zab oM];omega
theorem ajU (s:L8):(Lib.cut s [32]).1=(mQ s).1/\(Lib.cut s [32]).2.1=(mQ s).2:=by
 unfold Lib.cut mQ Bu;rw[Tn];cases h:s.idxOf? 32 with
 | none=>simp
 | some i=>simp
theorem Tp (s:L8):(mQ s).1.length<=s.length/\(mQ s).2.length<=s.length:=by
 unfold mQ;cases h:Bu s with
 | none=>simp
 | some x=>
  obtain⟨a,b⟩:=x;have:=ahe h;rw[this];simp only[zdk,zad];omega
theorem ahh {n:L8} {v:Value} (hv:v.oneCell'=true): ∀u∈[(n,v)].flatMap bZ,u.oneCell'=true:=λu hu=>by
 simp only[zbg,zep,zci,bZ,zap,zaj,or_false]at hu
 rcases hu with rfl | rfl
 .rfl
 exact hv
theorem aez {l:L8} {v:Int} (h:atoiAll l=.ok v):fits v:=atoiAll_bounds h
def Mq (b:Nat) (p:aZ) (st:Int):HP:=exH λx:Value×Value×List (L8×Value)=>lC [blk b [x.1,x.2.1,I p.group,I st] 134,Kz x.1 aD 3 p.wh,bW 94 2 bZ x.2.1 x.2.2,Dc x.2.2 p.cols]
def aoc (b:Nat):Option (aZ×Int)->HP
 | some r=>Mq b r.1 r.2
 | none=>emp
section
variable {w w0:Wd} {S:NP} {rs:List HP}
theorem xP {b:Nat} {p:aZ} {st:Int} {vw vc:Value} {r:List (L8×Value)} (H:Mw.Sep w0 S (blk b [vw,vc,I p.group,I st] 134::Kz vw aD 3 p.wh::bW 94 2 bZ vc r::Dc r p.cols::rs) w):Mw.Sep w0 S (Mq b p st::rs) w:=
 Sep.uW (p:=λx:Value×Value×List (L8×Value)=>lC [blk b [x.1,x.2.1,I p.group,I st] 134,Kz x.1 aD 3 p.wh,bW 94 2 bZ x.2.1 x.2.2,Dc x.2.2 p.cols]) (vw,vc,r) (Sep.bundle (l:=[_,_,_,_]) H)
theorem OZ {b:Nat} {p:aZ} {st:Int} (H:Mw.Sep w0 S (Mq b p st::rs) w): ∃vw vc r,Mw.Sep w0 S (blk b [vw,vc,I p.group,I st] 134::Kz vw aD 3 p.wh::bW 94 2 bZ vc r::Dc r p.cols::rs) w:=by
 unfold Mq at H;obtain⟨⟨vw,vc,r⟩,H⟩:=H.ex0;exact⟨vw,vc,r,Sep.parts H⟩
theorem rP {F:NP} (H:Mw.Sep w0 F rs w):Turn F emp w0 w:=(Sep.jT (φ:=True) trivial H).first.turn
theorem ahi (s:L8) (hl:s.length<=1048576) (hT:fA w):aN prog 114 [str s,str [32]] w λv w'=>(∃b,v=.tuple #[str (mQ s).1,str (mQ s).2,.bool b])/\Kept noB w w':=by
 obtain⟨m,hm⟩:=hT.len;have hs:(⟨s.toArray⟩:ByteArray).size=s.length:=Mw.size_mk s
 exact Calls.mono (Tryz.strings_Cut ⟨s.toArray⟩ ⟨#[32]⟩ m w (by rw[hs];omega) hm) λe w' he=>by
  obtain⟨rfl,n,rfl⟩:=he;obtain⟨h1,h2⟩:=ajU s;refine⟨⟨(Lib.cut s [32]).2.2,?_⟩,(Kept.refl noB w).anK _⟩;show Value.tuple #[str (Lib.cut s [32]).1,str (Lib.cut s [32]).2.1,.bool (Lib.cut s [32]).2.2]=_
  rw[h1,h2]
theorem ajV (t:L8) (hl:t.length<=1048576) (hT:fA w):aN prog 116 [str t] w λv w'=>(∃n e b,v=.tuple #[I n,e]/\IsNil e b/\(b=true->atoiAll t=.ok n)/\(b=false->∀m,atoiAll t≠ .ok m))/\Kept noB w w':=by
 have hs:(⟨t.toArray⟩:ByteArray).size=t.length:=Mw.size_mk t;cases h:atoiAll t
 .rename_i v
  exact Calls.mono (Tryz.strconv_Atoi_ok ⟨t.toArray⟩ (by rw[hs];omega) v h w) λe w' he=>by
   obtain⟨rfl,hw⟩:=he;refine⟨⟨v,.nilIface,true,rfl,.inl ⟨rfl,rfl⟩,λ_=>rfl,λhf=>by cases hf⟩,?_⟩
   rcases hw with rfl | ⟨t,rfl⟩
   .exact Kept.refl _ _
   exact Kept.of_below (Lib.bytesWorld_below _ _ _)
 .skip
  obtain⟨tp,p,hv⟩:=hT.syn
  exact Calls.mono (Tryz.strconv_Atoi_syntax_var ⟨t.toArray⟩ (by rw[hs];omega) h rfl tp p w hv) λe w' he=>by
   obtain⟨N,rfl,_,_,hb⟩:=he;exact⟨⟨_,_,false,rfl,.inr ⟨rfl,_,_,rfl⟩,(λhf=>by cases hf),λ_ m hm=>by cases hm⟩,Kept.of_below hb⟩
 skip;obtain⟨tp,p,hv⟩:=hT.ran
 exact Calls.mono (Tryz.strconv_Atoi_range_var ⟨t.toArray⟩ (by rw[hs];omega) h tp p w hv) λe w' he=>by
  obtain⟨N,rfl,_,_,hb⟩:=he;exact⟨⟨_,_,false,rfl,.inr ⟨rfl,_,_,rfl⟩,(λhf=>by cases hf),λ_ m hm=>by cases hm⟩,Kept.of_below hb⟩
theorem Tq (t:L8) (hl:t.length<=1000000) (hT:fA w):aN prog 115 [str t] w λv w'=>∃x,v=.tuple #[x,.bool (pX t).isSome]/\True/\Turn noB (bW 92 3 aD x (fQ t).1) w w':=by
 have H:=Sep.aL w;obtain⟨res,ay⟩: ∃res,res=(pX t).isSome:=⟨_,rfl⟩;rw[<-ay];unfold pX at ay;refine eP func115 rfl rfl rfl rfl ?_;refine Zb3 ?_;refine dx H (adx t (.inl hl) oM (hT.keep H.kept)) (h:=λx w5 _ H5 k4=>?_);obtain⟨B,cb,rfl,Ul,hB⟩:=Sep.eO H5 At0;refine Zb9 ?_;refine aC (t:=14) rfl (λSa=>?_) (λSa=>?_)
 .have he:(fQ t).2=0:=Sa
  refine Zb6 ?_;exact⟨_,by first | (rw[ay];rfl) | (rw[ay];by_cases hq:(fQ t).1=[]<;>simp[hq,he,fH,zfb]),trivial,H5.turn⟩
 rw[zab (λh=>Sa h.1)]at ay;refine Zb3 ?_;exact⟨_,by first | (rw[ay];rfl) | (rw[ay];by_cases hq:(fQ t).1=[]<;>simp[hq,he,fH,zfb]),trivial,H5.turn⟩
theorem ajW {b:Nat} {F:NP} {p:aZ} {st:Int} (s:L8) (hp:(Mq b p st).ok F w) (gQ:st=0\/st=1\/st=2\/st=3) (hl:s.length<=1000000) (hn:p.cols.length<=1000000) (hT: ∀w',Kept F w w'->fA w'):
    aN prog 76 [aA b,str s] w λv w'=>v=.bool (mR p st s).isSome/\Turn F (aoc b (mR p st s)) w w':=by
  obtain⟨vw,vc,r,H⟩:=OZ (Sep.dZ hp);obtain⟨res,ay⟩: ∃res,res=mR p st s:=⟨_,rfl⟩;rw[<-ay];unfold mR at ay;obtain⟨wd,hwd⟩: ∃wd,wd=(mQ s).1:=⟨_,rfl⟩;obtain⟨rest,Ki⟩: ∃rest,rest=(mQ s).2:=⟨_,rfl⟩;have xk:rest.length<=1000000:=by have:=(Tp s).2;rw[Ki];omega
  rw[<-hwd,<-Ki]at ay;obtain⟨A,ca,rfl,hca,hA⟩:=Sep.eO H At2;have gW:nI w r p.cols:=Sep.sees H At3;have hrn:=gW.len
  have hvw: ∃A c,vw=.slice A p.wh.length c:=by
    obtain⟨A,c,e,_⟩:=(Sep.sees H At1:aM w vw aD 3 p.wh);exact⟨A,c,e⟩
  obtain⟨Aw,cw,rfl⟩:=hvw;refine dS func76 rfl rfl rfl rfl ?_;refine Zb2 ?_;refine aS (ahi s oM (hT _ H.kept)) rfl rfl (λv' w4 hv=>?_);obtain⟨⟨b7,rfl⟩,eB⟩:=hv;have H4:=H.keep eB;rw[<-hwd,<-Ki];refine aqE ?_;refine Qn (NJ (iP (λ_:Unit=>[(0,aA b),(5,str wd),(6,str rest)]) (λ_ w'=>(res=(aaT s).map λo=>(⟨p.wh,p.cols++[o],p.group⟩,2))/\Sep w F [blk b [.slice Aw p.wh.length cw,.slice A r.length ca,I p.group,I st] 134,Kz (.slice Aw p.wh.length cw) aD 3 p.wh,bW 94 2 bZ (.slice A r.length ca) r,Dc r p.cols] w') ?_ ?_))
  . refine Za2 ?_
    refine Qn (Cp rfl (λIa=>?_) (λIa=>?_))
    . rw[zac Ia]at ay
      refine Zb3 ?_;refine bM H4 (h:=λwa Ha=>?_);refine Zb3 ?_;refine aC (t:=38) rfl (λSa=>?_) (λSa=>?_)
      . have Ei: ¬wd=Dx:=Sa
        rw[zab Ei]at ay;refine Za4 ?_;refine Qn (Rs (fG (dF (fG (dF (mG (dF (fG (nG (hR:=?_))))))))));exact⟨by rw[ay];exact zaw Value.bool (zar Ei),by rw[ay];exact rP Ha⟩
      have Ei:wd=Dx:=zbt.1 Sa;rw[zac Ei]at ay;refine Za3 ?_;refine Qn (Cp rfl (λIb=>?_) (λIb=>?_))
      . have Zn:rest=oJ:=Ib
        rw[zac Zn]at ay;refine Za3 ?_;refine Qn (Rs (fG (dF (fG (dF (mG (dF (fG (nG (hR:=?_))))))))));exact⟨by rw[ay];exact zaw Value.bool (zbe Ei),by rw[ay];exact(xP (p:=p) Ha).first.turn⟩
      rw[zab (show ¬rest=oJ from Ib)]at ay;refine Zb1 ?_;refine dx Ha (Tq rest xk (hT _ Ha.kept)) (h:=λx wb _ Hb ka=>?_);obtain⟨B,cb,rfl,Ul,hB⟩:=Sep.eO Hb At0;refine aeH ?_;refine bM Hb (h:=λwc Hc=>?_);refine Za2 ?_;refine Qn (Rs (dF (fG (dF (mG (dF (fG (nG (hR:=?_)))))))));rw[ay];unfold pX
      by_cases hq:(fQ rest).2=0/\(fQ rest).1≠[]
      . rw[zac hq]
        refine⟨rfl,?_⟩;exact(xP (p:=⟨(fQ rest).1,p.cols,p.group⟩) (Sep.aJ (iL Hc At0)).bF.eF).first.turn
      rw[zab hq];exact⟨rfl,rP Hc⟩
    have hs0: ¬st=0:=Ia;rw[zab hs0]at ay;refine Za2 ?_;refine Qn (Cp rfl (λIc=>?_) (λIc=>?_))
    . have Qv:st=2:=Ic
      refine Za2 ?_;refine Qn (Cp rfl (λId=>?_) (λId=>?_))
      . rw[zac ⟨Qv,Id⟩]at ay
        refine Zb3 ?_;refine bM H4 (h:=λwe Hd=>?_);refine Zb1 ?_;refine aS (ajV rest oM (hT _ Hd.kept)) rfl rfl (λv' wf hv=>?_);obtain⟨⟨n,ev,bn,rfl,afA,LA,amV⟩,eB⟩:=hv;have He:=Hd.keep eB;refine Za7 ?_;refine Qn (Cp rfl (λIe=>?_) (λIe=>?_))
        . have Zn:rest=oJ:=Ie
          have hgc:tT rest=some (-1):=by unfold tT;rw[zac Zn]
          rw[hgc]at ay;refine Zb7 ?_;refine bM He (h:=λwg Hf=>?_);refine Zb1 ?_;refine Vv (Gives.U7 (b:=true) (.inl ⟨rfl,rfl⟩) rfl rfl) (Mv ?_);refine iN (t:=74) rfl (λSb=>?_) (λSb=>?_)
          . refine Zb3 ?_
            refine aC (t:=77) rfl (λSc=>?_) (λSc=>?_)
            . refine Zb6 ?_
              refine aC (t:=91) rfl (λSd=>?_) (λSd=>?_)
              . exact zat Sd dC
              refine Za5 ?_;refine Qn (fu (dF (mG (dF (fG (nG (hR:=?_)))))));exact⟨by rw[ay];exact zaw Value.bool (zbe Zn),by rw[ay];exact(xP (p:=⟨p.wh,p.cols, -1⟩) Hf).first.turn⟩
            exact zat (show(-1:Int)<0 from dC) Sc
          exact Bool.noConfusion Sb
        have Zn: ¬rest=oJ:=Ie;have hgc:tT rest=(sj rest).map λn:Nat=>((n:Nat):Int):=by unfold tT;rw[zab Zn]
        refine Zb5 ?_;refine bM He (h:=λwi Hg=>?_);refine Zb1 ?_;refine Vv (Gives.U7 afA rfl rfl) (Mv ?_);refine iN (t:=74) rfl (λSe=>?_) (λSe=>?_)
        . have hat:atoiAll rest=.ok n:=LA Se
          have hnf:=aez hat;refine Zb3 ?_;refine aC (t:=77) rfl (λSf=>?_) (λSf=>?_)
          . have qR:tT rest=none:=by
              rw[hgc];cases hq:sj rest with
              | none=>rfl
              | some k=>
                have h1:=(vB.2 (show(sj rest).map (λn:Nat=>((n:Nat):Int))=some (k:Int) by rw[hq];rfl)).1;rw[hat]at h1;injection h1 with h1
                omega
            refine Zb6 ?_;refine aC (t:=91) rfl (λSg=>?_) (λSg=>?_)
            . exact zat Sg oM
            refine Za5 ?_;refine Qn (fu (dF (mG (dF (fG (nG (hR:=?_)))))));exact⟨by rw[ay,qR];exact zaw Value.bool (zar Zn),by rw[ay,qR];exact rP Hg⟩
          refine Zb1 ?_;refine aF Hg (U9 n hnf (hT _ Hg.kept)) (h:=λwj Hh kb=>?_);refine Zb3 ?_;refine aC (t:=82) rfl (λSh=>?_) (λSh=>?_)
          . refine Zb6 ?_
            refine aC (t:=88) rfl (λSi=>?_) (λSi=>?_)
            . have alB:tT rest=some n:=by rw[hgc];exact vB.1 ⟨hat,oM,by assumption,Si⟩
              refine Zb3 ?_;refine aC (t:=91) rfl (λSj=>?_) (λSj=>?_)
              . refine Za3 ?_
                refine Qn (fu (dF (mG (dF (fG (nG (hR:=?_)))))));exact⟨by rw[ay,alB];rfl,by rw[ay,alB];exact(xP (p:=⟨p.wh,p.cols,n⟩) Hh).first.turn⟩
              exact zat (show 0<=n from oM) Sj
            have qR:tT rest=none:=by
              rw[hgc];cases hq:sj rest with
              | none=>rfl
              | some k=>
                have h1:=vB.2 (show(sj rest).map (λn:Nat=>((n:Nat):Int))=some (k:Int) by rw[hq];rfl);have h2:=h1.1;rw[hat]at h2;injection h2 with h2
                omega
            refine Za2 ?_;refine Qn (fu (dF (mG (dF (fG (nG (hR:=?_)))))));exact⟨by rw[ay,qR];rfl,by rw[ay,qR];exact rP Hh⟩
          have qR:tT rest=none:=by
            rw[hgc];cases hq:sj rest with
            | none=>rfl
            | some k=>
              have h1:=vB.2 (show(sj rest).map (λn:Nat=>((n:Nat):Int))=some (k:Int) by rw[hq];rfl);have h2:=h1.1;rw[hat]at h2;injection h2 with h2
              exact zat (by rw[h2];exact h1.2.2.1) Sh
          refine Za6 ?_;refine Qn (fu (dF (mG (dF (fG (nG (hR:=?_)))))));exact⟨by rw[ay,qR];rfl,by rw[ay,qR];exact rP Hh⟩
        have qR:tT rest=none:=by
          rw[hgc];cases hq:sj rest with
          | none=>rfl
          | some k=>exact zat (vB.2 (by rw[hq];rfl)).1 (amV (by simpa using Se) _)
        refine Za4 ?_;refine Qn (fu (dF (mG (dF (fG (nG (hR:=?_)))))));exact⟨by rw[ay,qR];rfl,by rw[ay,qR];exact rP Hg⟩
      rw[zab (λh=>Id h.2),zac (.inr Qv)]at ay;refine Zb0 ?_;exact aG () tR ⟨ay,H4⟩
    have Qv: ¬st=2:=Ic;rw[zab (λh=>Qv h.1)]at ay;refine Za2 ?_;refine Qn (Cp rfl (λIf=>?_) (λIf=>?_))
    . have Sl:st=1\/st=2:=.inl If
      rw[zac Sl]at ay;refine Zb0 ?_;exact aG () tR ⟨ay,H4⟩
    rw[zab oM]at ay;refine Sk (Nj (xq rfl (zY (xq rfl (zY (xq rfl (adb (Ej (aU ?_)))))))));refine Zb1 ?_;exact⟨by rw[ay];rfl,by rw[ay];exact rP H4⟩
  rintro _ τ wk ⟨hres2,Hi⟩;simp only[dA,like,bB,bY];refine Zb3 ?_;refine bM Hi (h:=λwl Hj=>?_);refine Zb1 ?_;refine aS (ahi rest oM (hT _ Hj.kept)) rfl rfl (λv' wm hv=>?_);obtain⟨⟨b14,rfl⟩,eB⟩:=hv;have Hk:=Hj.keep eB;obtain⟨name,alC⟩: ∃name,name=(mQ rest).1:=⟨_,rfl⟩;obtain⟨text,ai0⟩: ∃text,text=(mQ rest).2:=⟨_,rfl⟩;have Qk:text.length<=1000000:=by have:=(Tp rest).2;rw[ai0];omega
  unfold aaT at hres2;rw[<-hwd,<-Ki,<-alC,<-ai0]at hres2;rw[<-alC,<-ai0];refine Zb8 ?_;refine dx Hk (Tq text Qk (hT _ Hk.kept)) (h:=λx wn _ Hl kc=>?_);obtain⟨B,cb,rfl,Ul,hB⟩:=Sep.eO Hl At0;refine mV ?_;refine Vb (bZ (name,.slice B (fQ text).1.length cb)) ?_;refine Bs Hl ([(name,Value.slice B (fQ text).1.length cb)].flatMap bZ) (λbs wo Hm kd=>?_);refine gP Hm (news:=[(name,Value.slice B (fQ text).1.length cb)]) At3 (by unfold maxLen;simp;omega) (by simp;omega) (ahh rfl) (h:=?_);intro v2 wp Hn;obtain⟨A2,c2,rfl,hc2,hA2⟩:=Sep.eO Hn At3;refine Zb3 ?_;refine bM Hn (h:=λwq Ho=>?_);refine Zb2 ?_;refine iN (t:=125) rfl (λSm=>?_) (λSm=>?_)
  . have his:(pX text).isSome=true:=Sm
    refine Zb4 ?_;refine aC (t:=129) rfl (λSn=>?_) (λSn=>?_)
    . have hwo:wd=QV:=Sn
      refine Zb1 ?_;refine aF Ho (RO _) (h:=λwr Hp ke=>?_);refine Zb2 ?_;cases hq:jE name with
      | false=>exact⟨by rw[hres2,zab (λh=>by rw[hq]at h;cases h.2)];rfl,by rw[hres2,zab (λh=>by rw[hq]at h;cases h.2)];exact rP Hp⟩
      | true=>
        have afx:pX text=some (fQ text).1:=by
          unfold pX at his |-
          split at his
          . rename_i h1;rw[zac h1]
          cases his
        refine⟨by rw[hres2,zac ⟨hwo,hq⟩,afx];rfl,?_⟩;rw[hres2,zac ⟨hwo,hq⟩,afx];have HA:=(LZ (n:=name) (Hp.fF.aJ)).bN.bN.bN;exact(xP (p:=⟨p.wh,p.cols++[⟨name,(fQ text).1⟩],p.group⟩) HA).first.turn
    have hwo: ¬wd=QV:=Sn;refine Zb2 ?_;exact⟨by rw[hres2,zab (λh=>hwo h.1)];rfl,by rw[hres2,zab (λh=>hwo h.1)];exact rP Ho⟩
  have qR:pX text=none:=by
    cases hq:pX text with
    | none=>rfl
    | some l=>rw[hq]at Sm;exact Bool.noConfusion Sm
  refine Zb4 ?_;exact⟨by rw[hres2,qR];split<;>rfl,by rw[hres2,qR];split<;>exact rP Ho⟩
end
def og (l:L8):L8:=l++[10]
theorem Yj {a b:L8} (h:og a=og b):a=b:=List.append_cancel_right h
theorem JM: ∀{a b:List (L8)},a.map og=b.map og->a=b
 | [],[],_=>rfl
 | [],b::l,h=>by cases h
 | a::l,[],h=>by cases h
 | a::l,b::m,h=>by
  injection h with h1 h2
  rw[Yj h1,JM h2]
def vC (s:L8):List (L8):=(d9 10 s).dropLast.map og++(if(d9 10 s).getLast?=some []then []else [(d9 10 s).getLastD []])
def Tt (s:L8):List (L8):=if(lJ s).2=true then(lJ s).1 else(lJ s).1.dropLast
theorem Yk:vC []=[]:=rfl
theorem VG {l:L8} (h:Lib.indexByte l 10= -1):d9 10 l=[l]:=
 GL λc hc e=>by
  obtain⟨k,hk⟩:=zdh hc;exact Lib.indexByte_none h k (by rw[hk,e])
theorem JN {l:L8} {o:Nat} (h:Lib.indexByte l 10=o):o<l.length/\l.take (o+1)=og (l.take o)/\d9 10 l=l.take o::d9 10 (l.drop (o+1)):=by
 obtain⟨h1,h2⟩:=Lib.indexByte_some h;have bX:=(zbd.1 h1).1
 have e:l=l.take o++10::l.drop (o+1):=by
  have e1:l.drop o=10::l.drop (o+1):=by
   rw[zbq bX]
   congr 1
   rw[zaa bX]at h1;injection h1
  conv=>lhs;rw[<-zbx o l,e1]
 refine⟨bX,by rw[zav,h1];rfl,?_⟩
 have:=Lb (sep:=10) (w:=l.take o) (l:=l.drop (o+1)) λc hc e=>by
  obtain⟨k,hk⟩:=zdh hc;rw[zcn]at hk
  split at hk
  .exact h2 k oM (by rw[hk,e])
  cases hk
 rw[<-this,<-e]
theorem aeA {l:L8} (h:Lib.indexByte l 10= -1) (iF:l≠[]):vC l=[l]:=by
 unfold vC;rw[VG h];simp[iF]
theorem aeB {l:L8} {o:Nat} (h:Lib.indexByte l 10=o):vC l=l.take (o+1)::vC (l.drop (o+1)):=by
 obtain⟨_,h2,h3⟩:=JN h;have iF:=KP (l.drop (o+1));unfold vC;rw[h3,h2];cases hs:d9 10 (l.drop (o+1))with
 | nil=>exact zat hs iF
 | cons a r=>
  rw[List.dropLast_cons_of_ne_nil sM];simp
theorem aaZ {s:L8}: ∀w∈d9 10 s,∀c∈w,c≠10:=by
 induction s with
 | nil=>intro w hw c hc;simp[d9]at hw;subst hw;cases hc
 | cons x l ih=>
  intro w hw c hc
  by_cases hx:x=10
  .rw[d9,zac hx]at hw
   rcases zap.1 hw with rfl | hw
   .cases hc
   exact ih w hw c hc
  obtain⟨w1,ws,e1,e2⟩:=sJ (sep:=10) (l:=l) hx;rw[e2]at hw;rw[e1]at ih
  rcases zap.1 hw with rfl | hw
  .rcases zap.1 hc with rfl | hc
   .exact hx
   exact ih w1 sM c hc
  exact ih w (zai _ hw) c hc
theorem Yl (s:L8): ∃T,vC s=(Tt s).map og++T/\((T=[]/\(lJ s).2=true)\/(∃x,T=[x]/\(lJ s).2=false/\∀c∈x,c≠10)):=by
 have iF:=KP s;unfold vC Tt lJ
 by_cases h:(d9 10 s).getLast?=some []
 .rw[zac h,zac h]
  exact⟨[],sM,.inl ⟨rfl,rfl⟩⟩
 rw[zab h,zab h];refine⟨[(d9 10 s).getLastD []],sM,.inr ⟨_,rfl,rfl,?_⟩⟩;refine aaZ (s:=s) _ ?_;rw[List.getLastD_eq_getLast?,List.getLast?_eq_some_getLast iF];exact List.getLast_mem iF
theorem aa0 {s:L8} {ls:List (L8)} {x:L8} (h:ls.map og++[x]<+:vC s):(∃l rest,x=og l/\Tt s=ls++l::rest)\/((lJ s).2=false/\ls=Tt s/\∀c∈x,c≠10):=by
 obtain⟨T,hT,hc⟩:=Yl s;obtain⟨t,ht⟩:=h;rw[hT,zbs,List.singleton_append]at ht
 rcases List.append_eq_append_iff.1 ht with⟨a,h1,h2⟩ | ⟨c,h1,h2⟩
 .obtain⟨l1,l2,e,e1,e2⟩:=List.map_eq_append_iff.1 h1
  have e1':=JM e1;subst e1';cases l2 with
  | nil=>
   subst e2;rw[zcr,zbr]at h2
   rcases hc with⟨rfl,_⟩ | ⟨y,rfl,hw,hy⟩
   .cases h2
   injection h2 with h2 _
   subst h2;rw[zci]at e;exact .inr ⟨hw,e.symm,hy⟩
  | cons l l2=>
   subst e2;injection h2 with h2 _
   exact .inl ⟨l,l2,h2,e⟩
 rcases hc with⟨rfl,_⟩ | ⟨y,rfl,hw,hy⟩
 .cases c<;>cases h2
 cases c with
 | nil=>
  rw[zci]at h1;injection h2 with h2 _
  subst h2;exact .inr ⟨hw,JM h1,hy⟩
 | cons z c=>injection h2 with _ h2;cases c<;>cases h2
theorem ajX {s:L8} {ls:List (L8)} (h:vC s=ls.map og):(lJ s).2=true/\(lJ s).1=ls:=by
 obtain⟨T,hT,hc⟩:=Yl s;rw[hT]at h
 rcases hc with⟨rfl,hw⟩ | ⟨y,rfl,hw,hy⟩
 .rw[zci]at h
  have:=JM h;unfold Tt at this;rw[zac hw]at this;exact⟨hw,this⟩
 obtain⟨l1,l2,e,e1,e2⟩:=List.map_eq_append_iff.1 h.symm;cases l2 with
 | nil=>cases e2
 | cons l l2=>
  injection e2 with e2 _
  exact zat rfl (hy 10 (by rw[<-e2];unfold og;simp))
theorem Mr (s:L8): ∀w∈d9 10 s,w.length<=s.length:=by
  induction s with
  | nil=>
   intro w h;have :w=[]:=by simpa[d9]using h
   rw[this];simp
  | cons c l ih=>
    intro w h
    by_cases hc:c=10
    . rw[d9,zac hc]at h
      rcases zap.1 h with rfl | h
      . simp
      have:=ih w h;simp only[zal];omega
    obtain⟨w1,ws,e1,e2⟩:=sJ (sep:=10) (l:=l) hc;rw[e2]at h;rw[e1]at ih
    rcases zap.1 h with rfl | h
    . have:=ih w1 sM
      simp only[zal];omega
    have:=ih w (zai _ h);simp only[zal];omega
theorem ajY {s x:L8} (h:x∈vC s):x.length<=s.length+1:=by
 unfold vC at h
 rcases zbh.1 h with h | h
 .obtain⟨y,hy,rfl⟩:=zaq.1 h
  have:=Mr s y ((List.dropLast_sublist _).subset hy);unfold og;rw[zad,zan];omega
 split at h
 .cases h
 rw[zay]at h;subst h;have iF:=KP s;have:=Mr s _ (List.getLast_mem iF);rw[List.getLastD_eq_getLast?,List.getLast?_eq_some_getLast iF];show((d9 10 s).getLast iF).length<=_
 omega
theorem ahj (s:L8):(vC s).length<=s.length+1:=by
 have h1:=Me 10 s;have h2:s.count 10<=s.length:=List.count_le_length;have h0:0<(d9 10 s).length:=oM;unfold vC;rw[zad,zae,List.length_dropLast]
 split<;>simp only[zcq,zal]<;>omega
theorem ajZ {J:List (L8)->aZ->Int->Prop} (h0:J [] oI 0) (hs: ∀m x p t p' t',J m p t->mR p t x=some (p',t')->J (m++[x]) p' t'): ∀(ls:List (L8)) {p:aZ} {st:Int},yI ls=some (p,st)->J ls p st:=by
 intro ls
 have key: ∀n (ls:List (L8)),ls.length=n->∀{p:aZ} {st:Int},yI ls=some (p,st)->J ls p st:=by
  intro n
  induction n with
  | zero=>
   intro l hl p st h;have:=zbi hl;subst this;injection h with h
   injection h with h1 h2
   subst h1;subst h2;exact h0
  | succ n ih=>
   intro l hl p st h;obtain⟨m,x,rfl⟩:=acE (show l≠[] by intro e;rw[e]at hl;cases hl);rw[OW]at h;obtain⟨⟨p',t'⟩,h1,h2⟩:=zdx.1 h;exact hs m x p' t' p st (ih m (by rw[zad,zan]at hl;omega) h1) h2
 exact λ{p st} h=>key ls.length ls rfl h
theorem aa1 {p p':aZ} {t t':Int} {x:L8} (h:mR p t x=some (p',t')):(p'.wh=p.wh\/∃y,p'.wh=(fQ y).1)/\(p'.cols=p.cols\/∃n y,p'.cols=p.cols++[⟨n,(fQ y).1⟩])/\(t'=1\/t'=2\/t'=3):=by
 unfold mR at h
 split at h
 .split at h
  .split at h
   .injection h with h;injection h with e1 e2;subst e1;subst e2;exact⟨.inl rfl,.inl rfl,.inl rfl⟩
   obtain⟨y,hy,h⟩:=zbb.1 h;unfold pX at hy
   split at hy
   .injection hy with hy
    injection h with e1 e2;subst e1;subst e2;exact⟨.inr ⟨_,hy.symm⟩,.inl rfl,.inl rfl⟩
   cases hy
  cases h
 split at h
 .obtain⟨y,_,h⟩:=zbb.1 h
  injection h with e1 e2;subst e1;subst e2;exact⟨.inl rfl,.inl rfl,.inr (.inr rfl)⟩
 split at h
 .obtain⟨o,ho,h⟩:=zbb.1 h
  unfold aaT at ho
  split at ho
  .obtain⟨l,hl,ho⟩:=zbb.1 ho
   unfold pX at hl
   split at hl
   .injection hl with hl
    subst hl;subst ho;injection h with e1 e2;subst e1;subst e2;exact⟨.inl rfl,.inr ⟨_,_,rfl⟩,.inr (.inl rfl)⟩
   cases hl
  cases ho
 cases h
def iR (p:aZ):Prop:=bK p.wh/\∀o∈p.cols,bK o.steps
theorem Ym (ls:List (L8)) {p:aZ} {st:Int} (h:yI ls=some (p,st)):p.cols.length<=ls.length/\(st=0\/st=1\/st=2\/st=3)/\iR p:=by
 refine ajZ (J:=λls p st=>p.cols.length<=ls.length/\(st=0\/st=1\/st=2\/st=3)/\iR p) ⟨zbf _,.inl rfl,(λx hx=>zat hx zaj),λo ho=>zat ho zaj⟩ (λm x p t p' t' hJ hl=>?_) ls h;obtain⟨h1,h2,h3,h4⟩:=hJ;obtain⟨c1,c2,c3⟩:=aa1 hl;rw[zad,zan];refine⟨?_,oM,?_,λo ho=>?_⟩
 .rcases c2 with e | ⟨n,y,e⟩
  .rw[e];omega
  rw[e,zad,zan];omega
 .rcases c1 with e | ⟨y,e⟩
  .rw[e];exact h3
  rw[e];exact N8 y
 rcases c2 with e | ⟨n,y,e⟩
 .rw[e]at ho;exact h4 o ho
 rw[e]at ho
 rcases zbh.1 ho with ho | ho
 .exact h4 o ho
 rw[zay]at ho;subst ho;exact N8 y
theorem Yn (x:L8):(∃l,x=og l/\Lib.trimSuffix x [10]=l/\Lib.hasSuffix x [10]=true)\/((∀l,x≠og l)/\Lib.trimSuffix x [10]=x/\Lib.hasSuffix x [10]=false):=by
 by_cases h:Lib.hasSuffix x [10]=true
 .have h':=h
  unfold Lib.hasSuffix at h';obtain⟨l,hl⟩:=List.isSuffixOf_iff_suffix.1 h';refine .inl ⟨l,hl.symm,?_,h⟩;unfold Lib.trimSuffix;rw[zac h,<-hl];simp
 refine .inr ⟨λl e=>h ?_,?_,by simpa using h⟩
 .unfold Lib.hasSuffix
  exact List.isSuffixOf_iff_suffix.2 ⟨l,e.symm⟩
 unfold Lib.trimSuffix;rw[zab h]
def plJ (b2 b3 b4 b5:Nat) (pre:List (L8)):HP:=exH λz:List (L8)×aZ×Int=>lC [jI (pre=z.1.map og/\yI z.1=some (z.2.1,z.2.2)),blk b2 [.slice none 0 0,.slice none 0 0,I 0] 26,blk b3 [I (pre.length:Nat)] 3,blk b4 [I 0] 29,Mq b5 z.2.1 z.2.2]
def plL (b2 b3 b4:Nat) (pre:List (L8)) (x:L8):HP:=lC [jI (∃ls p st,pre=ls.map og/\yI ls=some (p,st)/\((∃l,x=og l/\mR p st l=none)\/∀l,x≠og l)),blk b2 [.slice none 0 0,.slice none 0 0,I 0] 26,blk b3 [I (pre.length:Nat)] 3,blk b4 [I 4] 29]
theorem aeC {s:L8} {ls:List (L8)} {x:L8} {p:aZ} {st:Int} (hs:s.length<=1048576) (hp:ls.map og++[x]<+:vC s) (hr:yI ls=some (p,st)) (hx:(∃l,x=og l/\mR p st l=none)\/∀l,x≠og l):tK s=(oI,(((ls.map og).length:Nat):Int),4):=by
 rw[zae]
 rcases aa0 hp with⟨l,rest,e,hf⟩ | ⟨hw,hf,qR⟩
 .rcases hx with⟨l',e',hn⟩ | hx
  .have :l=l':=Yj (e.symm.trans e')
   subst this;exact aaX hs hf hr hn
  exact zat e (hx l)
 unfold Tt at hf;rw[hw,zab dC]at hf;rw[hf]at hr ⊢;exact aaY hs hw hr
section
variable {w:Wd}
theorem aa2 (l:L8):aN prog 112 [str l,.int .u8 10] w λv w'=>v=I (Lib.indexByte l 10)/\w=w':=
 nD (Tryz.strings_IndexByte ⟨l.toArray⟩ 10 w)
theorem ahk (s:L8):aN prog 74 [str s] w λv w'=>∃x:Nat,v=.func (.func 111) #[] #[aA x]/\True/\Turn noB (blk x [str s] 9) w w':=by
 have H:=Sep.aL w;refine eP func74 rfl rfl rfl rfl ?_;refine Sr (dz H (cs:=[str s]) rfl (h:=λb1 w2 H2 k1=>?_));refine Zb1 ?_;refine Vv (Gives.makeFunc (fs:=[]) (us:=[]) (cs:=[.tmp 1]) rfl rfl) (Zb1 ?_);exact⟨b1,rfl,trivial,H2.turn⟩
theorem VH (x:L8) (hl:x.length<=10000000):aN prog 75 [str x,str [10]] w λv w'=>v=.tuple #[str (Lib.trimSuffix x [10]),.bool (Lib.hasSuffix x [10])]/\w=w':=
 nD (Tryz.strings_CutSuffix ⟨x.toArray⟩ ⟨#[10]⟩ w (by rw[Mw.size_mk];omega))
theorem aa3 {S:NP} {w0:Wd} {J:List (L8)->HP} {L:List (L8)->L8->HP} {l D:Nat} {ro rj:Obj} {bS:Nat} {s:L8} (hl:s.length<=1048576)
    (HW:Sep w0 S [obj l ro,obj D (.deferred (some [])),J [],blk bS [str s] 9] w)
    (hy: ∀(pre:List (L8)) (x:L8) (Fr:List HP) (W:Wd),pre++[x]<+:vC s->Sep w0 S (obj l ro::obj D (.deferred (some []))::J pre::Fr) W->VK prog l [str x] W λb W'=>if b=true then Sep w0 S (obj l ro::obj D (.deferred (some []))::J (pre++[x])::Fr) W' else Sep w0 S [obj l rj,obj D (.deferred (some [])),L pre x] W'):
    aN prog 111 [.func (.yield l) #[] #[],aA bS] w λ_ W'=>Sep w0 S [obj l ro,obj D (.deferred (some [])),J (vC s)] W'\/∃pre x,pre++[x]<+:vC s/\Sep w0 S [obj l rj,obj D (.deferred (some [])),L pre x] W':=by
  have H:=HW;refine dS func111 rfl rfl rfl rfl ?_;refine Zb0 ?_;refine aP (λ_:List (L8)×L8=>[(0,.func (.yield l) #[] #[]),(1,aA bS)]) (λx w'=>(x.1++vC x.2=vC s/\x.2.length<=s.length)/\Sep w0 S [obj l ro,obj D (.deferred (some [])),J x.1,blk bS [str x.2] 9] w') (λx _=>x.2.length) ([],s) tR ⟨⟨rfl,zbf _⟩,H⟩ (λx τ w2 hI=>?_);obtain⟨pre,t⟩:=x;obtain⟨⟨Cm,Qk⟩,H2⟩:=hI;dsimp only at Cm Qk H2
  try simp only[dA,like,bB,bY]
  refine Za3 ?_;refine Qn (Cp rfl (λLB=>?_) (λLB=>?_))
  . have iF:t≠[]:=λe=>by rw[e]at LB;exact zat LB dC
    refine Zb2 ?_;refine gX (aa2 t) (h:=?_);refine Za3 ?_;refine Qn (Cp rfl (λIa=>?_) (λIa=>?_))
    . obtain⟨o,ho⟩: ∃o:Nat,Lib.indexByte t 10=o:=⟨(Lib.indexByte t 10).toNat,by have h1:=Ia;omega⟩
      obtain⟨aq7,hot,_⟩:=JN ho;have hrs:=aeB ho
      have mF:pre++[t.take (o+1)]<+:vC s:=by
        rw[<-Cm,hrs];exact⟨vC (t.drop (o+1)),sM⟩
      rw[ho];refine Ds (λSa wa Ha=>?_);refine Zb2 ?_;refine Gp Sa 2 rfl rfl (λ_=>(Gives.M5 (c:=((o+1:Nat):Int)) rfl rfl (by show(o:Int)+1=_;omega) oM)) (Gp Sa 3 rfl rfl (λ_=>(Gives.lV (i:=o+1) rfl rfl oM)) ?_);refine Zb2 ?_;refine Gp Sa 6 rfl rfl (λ_=>(Gives.M5 (c:=((o+1:Nat):Int)) rfl rfl (by show(o:Int)+1=_;omega) oM)) (Gp Sa 7 rfl rfl (λ_=>(Gives.sG (i:=o+1) rfl rfl oM)) ?_);refine Zb1 ?_;refine qd Sa 9 _ Ha (h:=λwb Hb=>⟨sT,?_⟩);refine Zb2 ?_;refine EM rfl (hy pre (t.take (o+1)) _ _ mF Hb) rfl rfl (λb8 wc Wh=>?_);refine Vv (Gives.not rfl) (Qn ?_);refine Cd rfl (λIb=>?_) (λIb=>?_)
      . have hb:b8=false:=by have h1:=Ib;revert h1;cases b8<;>simp
        rw[hb,zab dC]at Wh;refine Zb0 ?_;exact .inr ⟨pre,t.take (o+1),mF,Wh⟩
      have hb:b8=true:=by have h1:=Ib;revert h1;cases b8<;>simp
      rw[hb,zac rfl]at Wh;have Hc:=Wh;refine Zb0 ?_;exact ak (pre++[t.take (o+1)],t.drop (o+1)) tR ⟨⟨by dsimp only;rw[<-Cm,hrs];simp,by dsimp only;rw[zbu];omega⟩,Hc⟩ (by dsimp only;rw[zbu];omega)
    have akD:Lib.indexByte t 10= -1:=by have h1:=Ia;have h2:=Lib.indexByte_ge t 10;omega
    have hrs:=aeA akD iF;have mF:pre++[t]<+:vC s:=by rw[<-Cm,hrs];exact List.prefix_refl _
    refine Zb2 ?_;refine bM H2 (h:=λwd Hd=>?_);refine Zb2 ?_;refine EM rfl (hy pre t _ _ mF Hd) rfl rfl (λb8 we Wh=>?_);refine Vv (Gives.not rfl) (Qn ?_);refine Cd rfl (λIc=>?_) (λIc=>?_)
    . have hb:b8=false:=by have h1:=Ic;revert h1;cases b8<;>simp
      rw[hb,zab dC]at Wh;refine Zb0 ?_;exact .inr ⟨pre,t,mF,Wh⟩
    have hb:b8=true:=by have h1:=Ic;revert h1;cases b8<;>simp
    rw[hb,zac rfl]at Wh;have He:=Wh;refine Zb0 ?_;exact ak (pre++[t],[]) tR ⟨⟨by dsimp only;rw[<-Cm,hrs,Yk,zci],sM⟩,He⟩ (by have:=zfb.2 iF;dsimp only;simpa using this)
  have he:t=[]:=zbi oM;subst he;rw[Yk,zci]at Cm;refine Zb0 ?_;exact .inl (by rw[<-Cm];exact H2.firsts (l:=[_,_,_]))
end
end Go.Proofs.YtkfpleidaoaonaaGreatDoor
namespace Go.Mw
open Go.RowKit
theorem O1 {P:Program} {T U V:Td} {k:Nat} [Agg P T k] [OneCell P U] [OneCell P V] {σ:St} {w:Wd} {a b c x y z:Nat} {us:LV} {v u:Value} {E F G:Td} (hx:w.heap[x]? =some (.cells us.toArray E (0,0))) (hy:w.heap[y]? =some (.cells [v].toArray F (0,0))) (hz:w.heap[z]? =some (.cells [u].toArray G (0,0)))
    (hk:us.length=k:=by exact rfl) (ha:σ a=.pointer (some ⟨x,0,none⟩):=by exact rfl) (hb:σ b=.pointer (some ⟨y,0,none⟩):=by exact rfl) (hc:σ c=.pointer (some ⟨z,0,none⟩):=by exact rfl):uR P σ w [.cell a T,.cell b U,.cell c V] [.agg us.toArray,v,u]:=
  ⟨_,[v,u],⟨x,0,none⟩,rfl,ha,tV (k:=k) hx (us:=us) (by rw[zdg,<-hk,zbl]) hk,v,[u],⟨y,0,none⟩,rfl,hb,Jq hy,u,[],⟨z,0,none⟩,rfl,hc,Jq hz,rfl⟩
end Go.Mw
namespace Go.Proofs.YtkfpleidaoaonaaGreatDoor
open Go Go.Mw Go.Lib
set_option maxRecDepth 4000
attribute [local irreducible] FW FL FG FGn gu gy dh gH Qfn Gives
theorem GD {α:Type} {w:Wd} {enc:α->LV} {k:Nat}:aM w (.slice none 0 0) enc k []:=⟨none,0,rfl,⟨zbf _,dC⟩,jB.nil _ _ _⟩
theorem ahl (w:Wd):eG w (agg [.slice none 0 0,.slice none 0 0,I 0]) oI:=⟨_,_,rfl,GD,[],GD,nI.nil⟩
section
variable {w w0:Wd} {S:NP} {rs:List HP}
theorem EH {F:NP} (H:Mw.Sep w0 F rs w):Turn F (vZ (agg [.slice none 0 0,.slice none 0 0,I 0]) oI) w0 w:=(Sep.zm H ahl).first.turn
theorem VI {b:Nat} {p:aZ} {st:Int} {vw vc:Value} {r:List (L8×Value)} (H:Mw.Sep w0 S (blk b [vw,vc,I p.group,I st] 134::Kz vw aD 3 p.wh::bW 94 2 bZ vc r::Dc r p.cols::rs) w):eG w (agg [vw,vc,I p.group]) p:=
 ⟨vw,vc,rfl,Sep.sees H At1,r,lu H At2,Sep.sees H At3⟩
theorem O4 (s:L8) (hl:s.length<=900000\/1048576<s.length) (Zq:s.length<=1000000000) (hT:fA w):aN Tryz.prog 37 [str s] w λv w'=>∃x,v=.tuple #[x,I (tK s).2.1,I (tK s).2.2]/\True/\Turn noB (vZ x (tK s).1) w w':=by
  have H:=Sep.aL w;obtain⟨res,ay⟩: ∃res,res=tK s:=⟨_,rfl⟩;rw[<-ay];refine af3 Tryz.func37 rfl rfl rfl rfl ?_;refine Sr (aW H (h:=λb2 w2 H2 k1=>?_));refine aW H2 (h:=λb3 w4 H4 k3=>?_);refine aW H4 (h:=λb4 w6 H6 k5=>?_);refine Za3 ?_;refine Qn (Cp rfl (λIa=>?_) (λIa=>?_))
  . unfold tK at ay
    rw[zac oM]at ay;refine Sr (Vb [.slice none 0 0,.slice none 0 0,I 0] ?_);refine au H6 (h:=λwa Ha=>?_);refine bM Ha (h:=λwb Hb=>?_);refine bM Hb (h:=λwc Hc=>?_);refine Qn (Rs (Jp (h:=?_)));exact⟨[_,I 0,I 5],O1 (Hc.obj At2) (Hc.obj At1) (Hc.obj At0),_,by rw[ay];rfl,trivial,by rw[ay];exact EH Hc⟩
  have qQ:s.length<=900000:=oM;have Qi:s.length<=1048576:=oM;refine Zb0 ?_;refine aW H6 (h:=λb5 wd Hd ka=>?_);refine Zb1 ?_;refine aS (ahk s) rfl rfl (λv' we hv=>?_);obtain⟨bS,rfl,_,eB,F1,hq,jw⟩:=hv;have He:=Hd.new eB hq (λb hb=>(jw b hb).resolve_left id);refine Zb0 ?_;have atT:=ahj s
  have HJ:Mw.Sep w noB (plJ b2 b3 b4 b5 []::[blk bS [str s] 9]) we:=by
    have h0:Mw.Sep w noB (Kz (.slice none 0 0) aD 3 []::_) we:=Sep.zm He λ_=>GD;have h1:=((Oe (Sep.lZ h0 94 2 bZ)).aJ.bF).fF;have h2:=((xP (p:=oI) h1).bF.bN).fF;exact Sep.uW (p:=λz:List (L8)×aZ×Int=>lC [jI (([]:List (L8))=z.1.map og/\yI z.1=some (z.2.1,z.2.2)),blk b2 [.slice none 0 0,.slice none 0 0,I 0] 26,blk b3 [I (([]:List (L8)).length:Nat)] 3,blk b4 [I 0] 29,Mq b5 z.2.1 z.2.2]) ([],oI,0) (Sep.bundle (l:=[jI (([]:List (L8))=([]:List (L8)).map og/\yI []=some (oI,0)),_,_,_,_]) (Sep.jT ⟨rfl,rfl⟩ h2))
  refine Rt (gf:=111) (lb:=[aA bS]) str (vC s) (plJ b2 b3 b4 b5) (plL b2 b3 b4) _ HJ rfl rfl ?_ ?_ ?_ ?_
  . intro l D ro rb pre x Fr W mF HW
    have hxm:x∈vC s:=mF.subset (zch pre (zay.2 rfl));have hxl:=ajY hxm;have Zz:pre.length+1<=s.length+1:=by have:=mF.length_le;rw[zad,zan]at this;omega
    refine Za1 ?_;refine zK (tQ ?_);refine⟨[],HW,λWB HB=>?_⟩;have HB2:Mw.Sep w noB (obj l rb::obj D (.deferred (some []))::plJ b2 b3 b4 b5 pre::Fr) WB:=HB;replace HB2:=HB2.bF;unfold plJ at HB2;obtain⟨⟨ls,p,st⟩,HB2⟩:=HB2.ex0;obtain⟨⟨Fb,jG⟩,HB3⟩:=(HB2.parts).tJ;dsimp only at Fb jG HB3;obtain⟨rY,gQ,Fz⟩:=Ym ls jG;replace HB:=HB3;refine Zb1 ?_;refine gX (VH x oM) (h:=?_);refine Zb8 ?_;refine iN (t:=25) rfl (λSa=>?_) (λSa=>?_)
    . have am5:Lib.hasSuffix x [10]=false:=by simpa using Sa
      have qR: ∀l,x≠og l:=by
        rcases Yn x with⟨_,_,_,h⟩ | ⟨h,_⟩
        . rw[am5]at h;cases h
        exact h
      have sN: ∃ls p st,pre=ls.map og/\yI ls=some (p,st)/\((∃l,x=og l/\mR p st l=none)\/∀l,x≠og l):=⟨ls,p,st,Fb,jG,.inr qR⟩;refine Zb1 ?_;refine Ds (λSb wf Hf=>?_);refine Gb Sb 0 [.slice none 0 0,.slice none 0 0,I 0] ?_;refine Zb1 ?_;refine eH Sb 2 [(1,false)] Hf (h:=λwg Hg=>⟨aY Hg (h:=aK),?_⟩);refine qd Sb 3 _ Hg (h:=λwi Hh=>⟨sT,?_⟩);refine qd Sb 4 _ Hh (h:=λwj Hi=>⟨sT,?_⟩);refine dP Sb kR ?_;refine aU (Rs (dF (BZ ?_)));exact(Sep.bundle (l:=[jI (∃ls p st,pre=ls.map og/\yI ls=some (p,st)/\((∃l,x=og l/\mR p st l=none)\/∀l,x≠og l)),_,_,_]) (rs:=[_,_]) (Sep.jT sN ((Hi.bN).eF.firsts (l:=[_,_,_,_,_])))).JR
    have am5:Lib.hasSuffix x [10]=true:=by simpa using Sa
    obtain⟨l0,hx0,aiA⟩: ∃l0,x=og l0/\Lib.trimSuffix x [10]=l0:=by
      rcases Yn x with⟨l0,h1,h2,_⟩ | ⟨_,_,h⟩
      . exact⟨l0,h1,h2⟩
      rw[am5]at h;cases h
    have G8:l0.length<=s.length+1:=by have h1:=hxl;rw[hx0]at h1;unfold og at h1;rw[zad,zan]at h1;omega
    have avj:ls.length=pre.length:=by rw[Fb,zae]
    rw[aiA];refine Zb1 ?_;obtain⟨F0,fZ,iK,aQ⟩:=HB.focus At3;refine aS (ajW l0 fZ gQ oM oM λw' hk=>hT.keep (HB.kept.trans hk iK)) rfl rfl (λv' wk hv=>?_);obtain⟨rfl,eB,F1,hq,jw⟩:=hv;have Hj:=aQ _ F1 _ eB hq jw;refine On (Vv (Gives.not rfl) (Pf ?_));refine Qn (Cd rfl (λIb=>?_) (λIb=>?_))
    . have ac0:mR p st l0=none:=by
        have h1:=Ib;cases hq:mR p st l0 with
        | none=>rfl
        | some y=>rw[hq]at h1;cases h1
      have sN: ∃ls p st,pre=ls.map og/\yI ls=some (p,st)/\((∃l,x=og l/\mR p st l=none)\/∀l,x≠og l):=⟨ls,p,st,Fb,jG,.inl ⟨l0,hx0,ac0⟩⟩;refine Zb0 ?_;refine Ds (λSc wl Hk=>?_);refine Gb Sc 0 [.slice none 0 0,.slice none 0 0,I 0] ?_;refine Zb1 ?_;refine eH Sc 2 [(1,false)] Hk (h:=λwm Hl=>⟨aY Hl (h:=aK),?_⟩);refine qd Sc 3 _ Hl (h:=λwn Hm=>⟨sT,?_⟩);refine qd Sc 4 _ Hm (h:=λwo Hn=>⟨sT,?_⟩);refine dP Sc kR ?_;refine aU (Rs (dF (BZ ?_)));exact(Sep.bundle (l:=[jI (∃ls p st,pre=ls.map og/\yI ls=some (p,st)/\((∃l,x=og l/\mR p st l=none)\/∀l,x≠og l)),_,_,_]) (rs:=[_,_]) (Sep.jT sN ((Hn.bN).eF.firsts (l:=[_,_,_,_,_])))).JR
    obtain⟨⟨p',st'⟩,hl1⟩: ∃y,mR p st l0=some y:=by
      have h1:=Ib;cases hq:mR p st l0 with
      | none=>rw[hq]at h1;cases h1
      | some y=>exact⟨y,rfl⟩
    rw[hl1]at Hj;have asG:pre++[x]=(ls++[l0]).map og:=by rw[zam,Fb,hx0];rfl
    have apg:yI (ls++[l0])=some (p',st'):=by rw[OW,jG];exact hl1
    refine Zb1 ?_;refine Vv (Gives.M5 (c:=(((pre++[x]).length:Nat):Int)) rfl rfl (by rw[zad,zan];omega) (by rw[zad,zan];omega)) ?_;refine bM Hj (h:=λwp Ho=>?_);refine zK (y9 (FR ?_));exact(Sep.uW (p:=λz:List (L8)×aZ×Int=>lC [jI (pre++[x]=z.1.map og/\yI z.1=some (z.2.1,z.2.2)),blk b2 [.slice none 0 0,.slice none 0 0,I 0] 26,blk b3 [I ((pre++[x]).length:Nat)] 3,blk b4 [I 0] 29,Mq b5 z.2.1 z.2.2]) (ls++[l0],p',st') (Sep.bundle (l:=[jI (pre++[x]=(ls++[l0]).map og/\yI (ls++[l0])=some (p',st')),_,_,_,_]) (Sep.jT ⟨asG,apg⟩ Ho))).JR
  . intro l D ro rj W HW hy
    exact aa3 Qi HW hy
  rotate_left 1
  . intro D W pre x mF HD
    obtain⟨⟨ls,p,st,Fb,jG,sN⟩,HD2⟩:=((HD.aJ).parts).tJ;subst Fb;rw[aeC Qi mF jG sN]at ay;exact dF (fG (Aa HD2 At3 (λw1 H1=>⟨[_,_,I 4],O1 (H1.obj At0) (H1.obj At1) (H1.obj At2),_,by rw[ay];rfl,trivial,by rw[ay];exact EH H1⟩)))
  intro D wq Hp;have Hp:=Hp.aJ;unfold plJ at Hp;obtain⟨⟨ls,p,st⟩,Hp⟩:=Hp.ex0;obtain⟨⟨Fb,jG⟩,Hp⟩:=(Hp.parts).tJ;dsimp only at Fb jG Hp;obtain⟨rY,gQ,Fz⟩:=Ym ls jG;obtain⟨am6,hls⟩:=ajX Fb;have iq:=aaW Qi am6 (by rw[hls];exact jG);rw[<-ay,hls]at iq;have hlen:(vC s).length=ls.length:=by rw[Fb,zae]
  rw[hlen]at Hp;obtain⟨vw,vc,r,Hp⟩:=OZ (Hp.bN);obtain⟨Aw,cw,rfl,_⟩:=(Sep.sees Hp At1:aM _ vw aD 3 p.wh);obtain⟨Ac,cc,rfl,Qw,hRc⟩:=Sep.eO Hp At2;refine Za3 ?_;refine Qn (Cp rfl (λIc=>?_) (λIc=>?_))
  . rw[zac Ic]at iq
    refine Zb0 ?_;refine Ds (λSd wr Hq=>?_);refine Gb Sd 0 [.slice none 0 0,.slice none 0 0,I 0] ?_;refine Zb1 ?_;refine eH Sd 2 [(1,false)] Hq (h:=λws Hr=>⟨aY Hr (h:=aK),?_⟩);refine qd Sd 3 _ Hr (h:=λwt Hs=>⟨sT,?_⟩);refine qd Sd 4 _ Hs (h:=λwu Ht=>⟨sT,?_⟩);refine dP Sd kR ?_;refine aU (Rs (Aa Ht At7 (hR:=λwv Hu=>?_)));exact⟨[_,_,I 4],O1 (Hu.obj At4) (Hu.obj At5) (Hu.obj At6),_,by rw[iq];rfl,trivial,by rw[iq];exact EH Hu⟩
  rw[zab Ic]at iq;refine Zb1 ?_;refine yx Hp (us:=[.slice Aw p.wh.length cw,.slice Ac r.length cc,I p.group]) (hu:=rfl) (hk:=rfl) (h:=?_);have Zz:=VI Hp;refine aF Hp (adV Zz Fz.1 Fz.2 oM (hT.keep Hp.kept)) (h:=λww Hv kb=>?_);refine Za7 ?_;refine Qn (Cp rfl (λId=>?_) (λId=>?_))
  . have J8:Fj p=false:=by
      cases hq:Fj p with
      | false=>rfl
      | true=>have h1:=Id;unfold LY at h1;rw[hq,zab dC]at h1;exact zat rfl h1
    have ht2:(LY p).2=2:=by unfold LY;rw[zac J8]
    rw[zac J8]at iq;refine Sr (Vb [.slice none 0 0,.slice none 0 0,I 0] ?_);refine Mv ?_;refine au Hv (h:=λwx Hw=>?_);refine bM Hw (h:=λwy Hx=>?_);refine bM Hx (h:=λwz Hy=>?_);refine Qn (Rs (Aa Hy At7 (hR:=λwD Hz=>?_)));exact⟨[_,I 0,_],O1 (Hz.obj At4) (Hz.obj At5) (Hz.obj At6),_,by rw[iq,ht2];rfl,trivial,by rw[iq];exact EH Hz⟩
  have J8:Fj p=true:=by
    cases hq:Fj p with
    | true=>rfl
    | false=>have h1:=Id;unfold LY at h1;rw[zac hq]at h1;exact zat dC h1
  rw[zab (by rw[J8];decide)]at iq;refine Zb1 ?_;refine yx Hv (us:=[.slice Aw p.wh.length cw,.slice Ac r.length cc,I p.group]) (hu:=rfl) (hk:=rfl) (h:=?_);refine au Hv (h:=λwE HA=>?_);refine bM HA (h:=λwF HC=>?_);refine bM HC (h:=λwG HE=>?_);refine Qn (fu (Aa HE At7 (hR:=λwH HF=>?_)));exact⟨[_,I 0,I 0],O1 (HF.obj At4) (HF.obj At5) (HF.obj At6),_,by rw[iq];rfl,trivial,by rw[iq];exact(agb (g:=p.group) HF.eF).first.turn⟩
end
end Go.Proofs.YtkfpleidaoaonaaGreatDoor
namespace Go.Proofs.YtkfpleidaoaonaaGreatDoor
open Go Go.Mw Go.Lib
set_option maxRecDepth 4000
end Go.Proofs.YtkfpleidaoaonaaGreatDoor
namespace Go.Mw
open Go.RowKit
end Go.Mw
namespace Go.Proofs.YtkfpleidaoaonaaGreatDoor
open Go Go.Mw Go.Lib
set_option maxRecDepth 4000
section
variable {w:Wd}
end
end Go.Proofs.YtkfpleidaoaonaaGreatDoor
namespace Go.Proofs.YtkfpleidaoaonaaGreatDoor
open Go Go.Mw Go.Lib
set_option maxRecDepth 4000
attribute [local irreducible] FW FL FG FGn gu gy dh gH Qfn Gives
section
variable {w:Wd}
end
section
variable {w:Wd} {F:NP}
end
def qH (v:Value) (r:List (Value×Int)) (l:List aH):HP:=iC λw=>aM w v av 2 r/\fM w r l
section
variable {w w0:Wd} {S:NP} {rs:List HP} {put:HP->List HP}
end
section
variable {w:Wd} {F:NP}
end
section
variable {w:Wd} {F:NP}
theorem aj0 {b:Nat} {cols:List bL} {p:aZ} {T l want:List aH} {e:Int} {v vw:Value} (hp:(jq b cols p T).ok F w) (hl:BP w F v l) (hwt: ∀w1,Kept F w w1->cZ w1 vw want) (hT: ∀w1,Kept F w w1->fA w1) (fq:(bQ cols p).2=0) (MU:bK p.wh) (Jh: ∀o∈p.cols,bK o.steps) (hv:mg p T) (zI: ∀x∈l,bR x) (Uk:l.length<=100):
    aN Tryz.prog 44 [aA b,I e,v,vw] w λu w'=>u=.bool (decide ((dB cols p T l).1=want)&&decide ((dB cols p T l).2=e))/\Turn F (jq b cols p (dw cols p T l)) w w':=by
  have H:=Sep.dZ hp;refine CV Tryz.func44 rfl rfl rfl rfl ?_;refine Zb3 ?_;obtain⟨F0,uI,iK,aQ⟩:=H.focus At0;have CP: ∀w1,Kept F0 _ w1->Kept F w w1:=λw1 h1=>Mw.Kept.into H.kept iK h1;obtain⟨r,hr⟩:=hl;refine aS (xO uI ⟨r,λw1 h1=>hr w1 (CP w1 h1)⟩ (λw1 h1=>hT w1 (CP w1 h1)) fq MU Jh hv zI Uk) rfl rfl (λv' w5 hv=>?_);obtain⟨x,rfl,hx,jH,F1,jA,jO⟩:=hv;have H5:=(aQ _ F1 _ jH jA jO).dG;refine Zb7 ?_;have hxI:=dn H5 At0;rw[hx]at hxI;refine aF H5 (Mg hxI (hwt _ H5.kept)) (h:=λwa Ha ka=>?_);refine Mv ?_;refine aC (t:=20) rfl (λSa=>?_) (λSa=>?_)
  . refine Zb5 ?_
    exact⟨by simp_all[fH],Ha.eF.turn⟩
  refine Zb2 ?_;exact⟨by simp_all[fH],Ha.eF.turn⟩
end
set_option maxRecDepth 20000
def txA:L8:=[119,104,101,114,101,32,35,49,32,48,32,60,32,110,111,116,10,111,117,116,32,115,32,35,50,10,103,114,111,117,112,32,110,111,110,101,10]
def plA:aZ:=⟨[⟨1,1,[]⟩,⟨2,0,[]⟩,⟨12,0,[]⟩,⟨15,0,[]⟩],[⟨[115],[⟨1,2,[]⟩]⟩], -1⟩
def txG:L8:=[119,104,101,114,101,32,110,111,110,101,10,111,117,116,32,115,32,35,50,10,111,117,116,32,110,32,35,49,10,103,114,111,117,112,32,49,10]
def plG:aZ:=⟨[],[⟨[115],[⟨1,2,[]⟩]⟩,⟨[110],[⟨1,1,[]⟩]⟩],1⟩
def txO:L8:=[119,104,101,114,101,32,110,111,110,101,10,111,117,116,32,120,32,35,49,32,57,50,50,51,51,55,50,48,51,54,56,53,52,55,55,53,56,48,55,32,43,10,103,114,111,117,112,32,110,111,110,101,10]
def plO:aZ:=⟨[],[⟨[120],[⟨1,1,[]⟩,⟨2,9223372036854775807,[]⟩,⟨7,0,[]⟩]⟩], -1⟩
def K3 (l:List bJ):Bool:=l.all λx=>decide (-9223372036854775808<=x.n/\x.n<=9223372036854775807)
theorem FN {l:List bJ} (h:K3 l=true):bK l:=λx hx=>by
 have h1:=zaz.1 h x hx;exact zba (p:= -9223372036854775808<=x.n/\x.n<=9223372036854775807) h1
def textOf (p:aZ) (t:L8):Bool:=Fj p&&K3 p.wh&&p.cols.all (λo=>K3 o.steps)&&decide (xA (nV p)=t)&&decide (t.length<=1000)
theorem Dz {p:aZ} {t:L8} (h:textOf p t=true):tK t=(p,0,0)/\(bK p.wh/\∀o∈p.cols,bK o.steps)/\t.length<=1000:=by
 unfold textOf at h;simp only[zbv,decide_eq_true_eq]at h;obtain⟨⟨⟨⟨h1,h2⟩,h3⟩,h4⟩,h5⟩:=h;have f2:=FN h2;have f3: ∀o∈p.cols,bK o.steps:=λo ho=>FN (zaz.1 h3 o ho);subst h4;exact⟨adS h1 f2 f3 oM,⟨f2,f3⟩,h5⟩
theorem ak9:textOf plA txA=true:=by decide+kernel
theorem ahm:textOf plG txG=true:=by decide+kernel
theorem ala:textOf plO txO=true:=by decide+kernel
def aV:L8:=[97]
def bV:L8:=[98]
def iV (id:Int) (s:L8) (w:Int):aH:=⟨acB id s,w⟩
def bT (s:L8):aI:=⟨false,0,s⟩
def yJ (n:Int):aI:=⟨false,n,[]⟩
def Ms (w:Int):aH:=⟨[bT aV],w⟩
def gV (s:aI) (count n w:Int):aH:=⟨[s,yJ count,yJ n],w⟩
def lA1:List aH:=[iV 1 aV 1,iV (-2) bV 1,iV 3 aV 2]
def lA2:List aH:=[iV 1 aV (-1),iV (-2) bV (-1)]
def lG1:List aH:=[iV 5 aV 1,iV 2 aV 1,iV 1 [] 1]
def lG2:List aH:=[iV 2 aV (-1),iV 9 aV 1]
def lG3:List aH:=[⟨[yJ 1,bT aV,bT aV],1⟩]
def lD:List aH:=[⟨[yJ 2147483648],1⟩]
def lO1:List aH:=[iV 1 aV 1]
def lO2:List aH:=[iV 0 aV 1]
def tA1:List aH:=dw tu plA [] lA1
def tA2:List aH:=dw tu plA tA1 lA2
def tG1:List aH:=dw tu plG [] lG1
def tG2:List aH:=dw tu plG tG1 lG2
def zx:aI:=⟨true,0,[]⟩
theorem GH:(bQ tu plA).2=0/\dB tu plA [] lA1=([Ms 3],0)/\dB tu plA tA1 lA2=([Ms (-1)],0)/\dK plA.group plA.cols.length tA2=([Ms 2],0):=by decide+kernel
theorem dQ:(bQ tu plG).2=0/\dB tu plG [] lG1=([gV zx 1 1 1,gV (bT aV) 2 7 1],0)/\dB tu plG tG1 lG2=([gV (bT aV) 2 7 (-1),gV (bT aV) 2 14 1],0)/\dB tu plG tG2 lG3=([],100)/\dB tu plG tG2 []=([],0)/\dX tu plG lD=([],100):=by decide+kernel
theorem K4:(bQ tu plO).2=0/\dB tu plO [] lO1=([],50)/\dB tu plO [] lO2=([⟨[yJ 9223372036854775807],1⟩],0):=by decide+kernel
end Go.Proofs.YtkfpleidaoaonaaGreatDoor
namespace Go.Mw
open Go.RowKit
theorem amf {P:Program} {f:FuncId} {fn:Func} {c:Code} {w:Wd} {R:Value->Wd->Prop} {n:Nat} {l:List ResultVar} {a0 a1 a2 a3:Value} (hf:P.funcs[f]? =some fn) (hb:fn.body=some c) (hn:fn.ntmps=n) (hl:fn.results=l.toArray) (hk:Nat.ble 4 n=true)
    (h:FW P none n c (aeK P l R) (upd (upd (upd (upd und 3 a3) 2 a2) 1 a1) 0 a0) w):aN P f [a0,a1,a2,a3] w R:=zy hf hb hn hl hk h
end Go.Mw
namespace Go.Proofs.YtkfpleidaoaonaaGreatDoor
open Go Go.Mw Go.Lib
set_option maxRecDepth 4000
attribute [local irreducible] FW FL FG FGn gu gy dh gH Qfn Gives
section
variable {w w0:Wd} {S:NP} {rs:List HP}
theorem pU {v1:Value} {n1:Int} {r1:List aI} {b:Nat} (H:Mw.Sep w0 S (blk b ([(v1,n1)].flatMap av) 82::bW 52 3 aj v1 r1::rs) w):Mw.Sep w0 S (qH (.slice (some ⟨b,0,none⟩) 1 1) [(v1,n1)] [⟨r1,n1⟩]::rs) w:=by
 have h1:=uM (x:=v1) (o:=⟨r1,n1⟩) ((KF H).bF);have h2:=iL (l:=[(v1,n1)]) (enc:=av) (k:=2) (Sep.rM (n:=1) (s:=2) h1.aJ At0 rfl dC) At0;exact Sep.rH h2 λw a b=>⟨a,b⟩
theorem eu {v1 v2:Value} {n1 n2:Int} {r1 r2:List aI} {b:Nat} (H:Mw.Sep w0 S (blk b ([(v1,n1),(v2,n2)].flatMap av) 82::bW 52 3 aj v2 r2::bW 52 3 aj v1 r1::rs) w):Mw.Sep w0 S (qH (.slice (some ⟨b,0,none⟩) 2 2) [(v1,n1),(v2,n2)] [⟨r1,n1⟩,⟨r2,n2⟩]::rs) w:=by
 have h1:=uM (x:=v1) (o:=⟨r1,n1⟩) ((KF H).bN);have h1:=uM (x:=v2) (o:=⟨r2,n2⟩) (h1.bF);have h2:=iL (l:=[(v1,n1),(v2,n2)]) (enc:=av) (k:=2) (Sep.rM (n:=2) (s:=2) h1.aJ At0 rfl dC) At0;exact Sep.rH h2 λw a b=>⟨a,b⟩
theorem AP {v1 v2 v3:Value} {n1 n2 n3:Int} {r1 r2 r3:List aI} {b:Nat} (H:Mw.Sep w0 S (blk b ([(v1,n1),(v2,n2),(v3,n3)].flatMap av) 82::bW 52 3 aj v3 r3::bW 52 3 aj v2 r2::bW 52 3 aj v1 r1::rs) w):Mw.Sep w0 S (qH (.slice (some ⟨b,0,none⟩) 3 3) [(v1,n1),(v2,n2),(v3,n3)] [⟨r1,n1⟩,⟨r2,n2⟩,⟨r3,n3⟩]::rs) w:=by
 have h1:=uM (x:=v1) (o:=⟨r1,n1⟩) ((KF H).fF);have h1:=uM (x:=v2) (o:=⟨r2,n2⟩) (h1.bN);have h1:=uM (x:=v3) (o:=⟨r3,n3⟩) (h1.bF);have h2:=iL (l:=[(v1,n1),(v2,n2),(v3,n3)]) (enc:=av) (k:=2) (Sep.rM (n:=3) (s:=2) h1.aJ At0 rfl dC) At0;exact Sep.rH h2 λw a b=>⟨a,b⟩
theorem EI (H:Mw.Sep w0 S rs w):Mw.Sep w0 S (qH (.slice none 0 0) [] []::rs) w:=Sep.zm H λw=>⟨Er _ _ _,fM.nil⟩
theorem eZ {b:Nat} {cols:List bL} {p:aZ} {T li lw:List aH} {ri rw':List (Value×Int)} {e:Int} {vi vw:Value} (H:Mw.Sep w0 S (star (qH vw rw' lw) (qH vi ri li)::jq b cols p T::rs) w) (hT: ∀wx,Kept S w0 wx->fA wx) (fq:(bQ cols p).2=0) (MU:bK p.wh) (Jh: ∀o∈p.cols,bK o.steps) (hv:mg p T) (zI: ∀x∈li,bR x) (Uk:li.length<=100):
    aN Tryz.prog 44 [aA b,I e,vi,vw] w λu w'=>u=.bool (decide ((dB cols p T li).1=lw)&&decide ((dB cols p T li).2=e))/\Mw.Sep w0 S (jq b cols p (dw cols p T li)::rs) w':=by
  obtain⟨F0,uI,iK,Uq,aQ⟩:=Sep.BM H At0;have CP: ∀w1,Kept F0 w w1->Kept S w0 w1:=λw1 h1=>Mw.Kept.into H.kept iK h1;refine aN.mono (aj0 (want:=lw) uI ⟨ri,λw1 h1=>?_⟩ (λw1 h1=>?_) (λw1 h1=>hT w1 (CP w1 h1)) fq MU Jh hv zI Uk) λu w' hu=>?_
  . obtain⟨Fq,F1,F2,_,_,_,h2⟩:=Uq w1 h1
    exact tL h2
  . obtain⟨Fq,F1,F2,_,_,h2,_⟩:=Uq w1 h1
    exact⟨rw',(tL h2).1,(tL h2).2⟩
  obtain⟨rfl,jH,F1,jA,jO⟩:=hu;exact⟨rfl,(aQ _ F1 _ jH jA jO).eF⟩
end
section
variable {w:Wd}
theorem K6 (wt:Int):aN Tryz.prog 41 [I wt] w λu w'=>∃x:Value,u=agg (av (x,wt))/\True/\Turn noB (bW 52 3 aj x [bT aV]) w w':=by
 have H:=Sep.aL w;refine sI Tryz.func41 rfl rfl rfl rfl ?_;refine Sr (aW H (h:=λb2 w2 H2 k1=>?_));refine Nx (Vb (aj (bT aV)) ?_);refine Bs H2 ([bT aV].flatMap aj) (λbs w5 H5 k4=>?_);refine Mv ?_;refine Vb (av (.slice (some ⟨bs,0,none⟩) 1 1,wt)) ?_;refine au H5 (h:=λw9 H9=>?_);refine Qn (fu (aX (h:=?_)));exact⟨_,jg H9,_,rfl,trivial,(Sep.rM (n:=1) (s:=3) H9 At0 rfl dC).first.turn⟩
theorem gG (c:aI) (n1 n2 wt:Int):aN Tryz.prog 42 [agg (aj c),I n1,I n2,I wt] w λu w'=>∃x:Value,u=agg (av (x,wt))/\True/\Turn noB (bW 52 3 aj x [c,yJ n1,yJ n2]) w w':=by
 have H:=Sep.aL w;refine amf Tryz.func42 rfl rfl rfl rfl ?_;refine Sr (dz H (cs:=aj c) rfl (h:=λb4 w2 H2 k1=>?_));refine aW H2 (h:=λb8 w4 H4 k3=>?_);refine Nx (iA H4 (cs:=aj c) (h:=?_));refine Mv ?_;refine Vb (aj (yJ n1)) ?_;refine Mv ?_;refine Vb (aj (yJ n2)) ?_;refine Bs H4 ([c,yJ n1,yJ n2].flatMap aj) (λbs wa Ha ka=>?_);refine Mv ?_;refine Vb (av (.slice (some ⟨bs,0,none⟩) 3 3,wt)) ?_;refine au Ha (h:=λwb Hb=>?_);refine Qn (fu (aX (h:=?_)));exact⟨_,jg Hb,_,rfl,trivial,(Sep.rM (n:=3) (s:=3) Hb At0 rfl dC).first.turn⟩
theorem K7 {p:aZ} {t:L8} (ht:textOf p t=true) (fq:(bQ tu p).2=0) (Ei:p.wh.length<=100) (Je: ∀o∈p.cols,o.steps.length<=100) (hT:fA w):aN Tryz.prog 43 [str t] w λu w'=>∃b:Nat,u=aA b/\True/\Turn noB (jq b tu p []) w w':=by
 obtain⟨hp,⟨MU,Jh⟩,Qk⟩:=Dz ht;have Un:=qG fq;have H:=Sep.aL w;refine eP Tryz.func43 rfl rfl rfl rfl ?_;refine Zb2 ?_;refine dx H (O4 t (.inl oM) oM (hT.keep H.kept)) (h:=λx w4 _ H4 k3=>?_);rw[hp]at H4 ⊢;have hPI:eG w4 x p:=Sep.sees H4 At0;obtain⟨vw,vc,rfl,hvw,q,hvc,_⟩:=hPI;obtain⟨W,cw,rfl,_,_⟩:=hvw;obtain⟨A,ca,rfl,_,_⟩:=hvc;refine Zb4 ?_;refine aW H4 (h:=λb3 wa Ha k9=>?_);refine au Ha (us:=[.slice W p.wh.length cw,.slice A q.length ca,I p.group]) (h:=λwb Hb=>?_);refine Zb2 ?_;refine Ds (λSa wc Hc=>?_);refine nC Sa 1 Hc (h:=?_);refine dL Sa 0 [(1,false)] Hc VA (h:=λtv wd _ Hd ka=>⟨aO Hd (h:=aK),?_⟩);have asJ:eG wd (agg [.slice W p.wh.length cw,.slice A q.length ca,I p.group]) p:=Sep.sees Hd At2;refine fO Sa 2 [] rfl kR (Dw (lu Hd At0) dC asJ MU Jh oM oM (λo ho=>by have:=Je o ho;omega) (hT.keep Hd.kept)) rfl kR kR (λv' we hv=>?_);obtain⟨pv,rfl,eB,_,hb⟩:=hv;obtain⟨b,rfl,jH,F1,jA,jO⟩:=hb fq;have He:=Hd.new jH jA (λb hb=>(jO b hb).resolve_left id);refine⟨sT,?_⟩;refine Zb7 ?_;exact⟨b,rfl,trivial,He.first.turn⟩
end
end Go.Proofs.YtkfpleidaoaonaaGreatDoor
