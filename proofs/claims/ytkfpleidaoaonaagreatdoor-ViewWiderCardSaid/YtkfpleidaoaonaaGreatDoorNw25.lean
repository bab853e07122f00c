/-
 The law ViewWider;walked.
-/
import Derived.Test.YtkfpleidaoaonaaGreatDoorNw1
import Derived.Test.YtkfpleidaoaonaaGreatDoorNw3
import Derived.Test.YtkfpleidaoaonaaGreatDoorNw24
import Derived.Test.YtkfpleidaoaonaaGreatDoorNw18
import Derived.Test.YtkfpleidaoaonaaGreatDoorNw17
import Derived.Test.YtkfpleidaoaonaaGreatDoorNw4
import Derived.ProofKit
import Derived.Carry
import Derived.ChangeSame
import Derived.Deep.Slices
import Derived.Deep.Fields
import Derived.Test.YtkfpleidaoaonaaGreatDoorNw10
import Derived.Test.YtkfpleidaoaonaaGreatDoorRows
import Derived.PinnedBridge
import Derived.Lib.LaidU8
import Derived.Stop.LaidErr
import Derived.Deep.DeepHandedRow
import Derived.Lay
import Derived.MakeChecks
import Derived.Test.YtkfpleidaoaonaaGreatDoorNw9
import Derived.ChangeMaps5
import Derived.Test.YtkfpleidaoaonaaGreatDoorNw13
import Derived.OpenShut
import Derived.Test.YtkfpleidaoaonaaGreatDoorNw23
import Derived.Test.YtkfpleidaoaonaaGreatDoorNw21
import Derived.JoinedOf
set_option linter.unusedVariables false
set_option linter.unusedSimpArgs false
namespace Go.Proofs.YtkfpleidaoaonaaGreatDoor
open Go Go.Mw Go.Lib
set_option maxRecDepth 4000
attribute [local irreducible] FW FL FG FGn fZ gG cO gW Qfn Gives
def ny (l:List bF) (i:Nat):List bF:=(l.take i).map nY++l.drop i
theorem XP {l:List bF} {i:Nat}:(ny l i).length=l.length:=by
 unfold ny;rw[zad,zaf,zaj,zbq];omega
theorem aby {l:List bF} {i:Nat} {c:bF} (h:l[i]? =some c):(ny l i)[i]? =some c:=by
 have hi:=gN h;unfold ny;rw[zbv (by rw[zaf,zaj];omega),zaf,zaj,zcv oM,zet,K3 h];rfl
theorem XQ {l:List bF} {i:Nat} {c:bF} (h:l[i]? =some c):(ny l i).set i (nY c)=ny l (i+1):=by
 have hi:=gN h;unfold ny;rw[zfj _ _ (by rw[zaf,zaj];omega),zaf,zaj,zcv oM,zet,K3 h,zea,zbd,h];simp
theorem UN {l:List bF} {i:Nat} {c:bF} (h:l[i]? =some c) (hk:c.type.kind≠2):ny l i=ny l (i+1):=by
 have :nY c=c:=by unfold nY DX;rw[zab hk]
 unfold ny;rw[K3 h,zbd,h];simp[this]
theorem XT {l:List bF} {i:Nat} (h:i=l.length):ny l i=l.map nY:=by
 unfold ny;rw[h,zbo,zfd,zci]
theorem UO (k:Int): ∀l:List Int,(lg k l).length<=l.length+1
 | []=>by simp[lg]
 | x::l=>by
  have:=UO k l;rw[lg]
  split
  .rw[zal,zal];omega
  split<;>simp
theorem Ci: ∀(l:List aZ) (a:List Int),(l.foldl (λa x=>lg x.n a) a).length<=a.length+l.length
 | [],a=>zbk _
 | x::l,a=>by
  have h1:=Ci l (lg x.n a);have h2:=UO x.n a;rw[List.foldl_cons,zal];omega
theorem UQ {α β:Type} {f:α->List β} {k:Nat}: ∀{l:List α},(∀x∈l,(f x).length<=k)->(l.flatMap f).length<=k*l.length
 | [],_=>sM
 | x::l,h=>by
  have h1:=UQ (f:=f) (k:=k) (l:=l) λy hy=>h y (zag _ hy);have h2:=h x zae;rw[zbc,zad,zal,Nat.mul_succ];omega
theorem aeL {cols:List bF} {p:aW} (C:abx cols p):(Kk p).length<=1400:=by
 have h1:=Ci ((p.wh++p.cols.flatMap (·.steps)).filter λx=>decide (x.kind=1)) [];have h2:((p.wh++p.cols.flatMap (·.steps)).filter λx=>decide (x.kind=1)).length<=_:=zep _ _;have h3:(p.cols.flatMap (·.steps)).length<=70*p.cols.length:=UQ C.st;have h4:=C.wh;have h5:=C.outs;rw[zad]at h2;rw[zcu]at h1;show(qR _).length<=1400
 unfold qR;omega
def yC (d:Int):bF:=⟨d,[],⟨4,false⟩,⟨false,0,[]⟩⟩
def gM (i:Nat):ay:=⟨false,0,([120,121,122]:L8).take (i%4)⟩
def mK (n:Nat):List ay:=(List.range n).map gM
theorem abz (d:Int) (i:Nat):eF (yC d).type (gM i)=0:=by
 have h: ∀k:Nat,k<4->eF ⟨4,false⟩ ⟨false,0,([120,121,122]:L8).take k⟩=0:=dC;exact h (i%4) (Nat.mod_lt _ dC)
theorem qO (n:Nat):(mK n).length=n:=by unfold mK;rw[zaf,zdn]
theorem OT {l:List aH} {i:Nat} {o:aH} (h:l[i]? =some o):rQ (l.take (i+1)) (mK (i+1))=rQ (l.take i) (mK i)++[⟨o.row++[gM i],o.w⟩]:=by
 have hi:=gN h;unfold rQ;rw[zbd,h,show mK (i+1)=mK i++[gM i] by unfold mK;rw[List.range_succ,zau];rfl,zed,List.zipWith_append (by rw[qO,zaj];omega)];rfl
theorem aeM {l:List aH} (h: ∀x∈l,eG x): ∀x∈rQ l (mK l.length),eG x:=λx hx=>by
 unfold rQ at hx;obtain⟨j,hj,e⟩:=zfo.1 hx;rw[List.getElem_zipWith]at e;rw[zfz]at hj;subst e;obtain⟨h1,h2⟩:=h l[j] (zfu _);refine⟨h1,λc hc=>?_⟩
 rcases zbi.1 hc with hc | hc
 .exact h2 c hc
 rw[zar]at hc;subst hc;unfold mK;rw[List.getElem_map];exact⟨by show(-9223372036854775808:Int)<=0;decide,by show(0:Int)<=9223372036854775807;decide⟩
theorem aeN {l:List aH}:(rQ l (mK l.length)).length=l.length:=by
 unfold rQ;rw[zfz,qO,Nat.min_self]
section
variable {w:Wd}
set_option maxHeartbeats 2000000 in
theorem Q0 {cols:List bF} {p:aW} {l:List aH} {vc v vl:Value} (hc:aQ w vc aX 7 cols) (hp:ji w v p) (hpf:tN p) (hl:eT w vl l) (Jw: ∀x∈l,eG x) (hT:gQ w):Rk Tryz.prog 10 [vc,v,vl] w (.bool true):=by
  have H:=Sep.aJ w;obtain⟨A0,a0,B0,b0,rfl⟩:=Ll hp;have k:=hc;obtain⟨Kc,m,rfl,⟨hm,qX⟩,hA⟩:=hc;have C0:=ahb cols hpf;have YH: ∀wx,Kept noB w wx->gQ wx:=λwx h=>hT.keep h;obtain⟨R,hR⟩: ∃R,R=Cg l:=⟨_,rfl⟩;have hqf:=abv Jw;have hqn:=abt l;have hqr:=abu (l:=l);rw[<-hR]at hqf hqn hqr;obtain⟨n,hn⟩: ∃n:Nat,n=min cols.length 11:=⟨_,rfl⟩;have ahX:min (cols.length:Int) 11=(n:Int):=oM;obtain⟨co,hco⟩: ∃co,co=cols.take n:=⟨_,rfl⟩;have Rq:co.length=n:=by rw[hco,zaj];omega
  obtain⟨pc,xJ⟩: ∃pc,pc=vZ p:=⟨_,rfl⟩;rw[<-xJ]at C0;have C:abx co pc:=⟨C0.fit,oM,C0.outs,C0.wh,C0.st⟩;have Cw:abx (co.map nY) pc:=⟨C0.fit,by rw[zaf];omega,C0.outs,C0.wh,C0.st⟩;refine y7 Tryz.func10 rfl rfl rfl rfl ?_;refine Sr (cB H (cs:=[.slice A0 p.wh.length a0,.slice B0 p.cols.length b0,I p.group]) rfl (h:=λb4 _ _ S=>?_));refine Zb1 ?_;refine Ds (λa _ g=>?_);refine Zb3 ?_;refine Gp a 3 rfl rfl (λ_=>(Gives.ac9 rfl rfl ahX)) (Gp a 4 rfl rfl (λ_=>(Gives.sliceTo (h:=n) rfl rfl oM)) ?_);refine pq a 6 g (h:=?_);refine fV a 5 [(6,false)] g (yc (Oy (m:=n) (k.keep g.kept) oM) (by rw[zaj];omega)) (h:=λx1 _ _ g _=>⟨sU,?_⟩);rw[<-hco]at g;refine fV a 7 _ g (Xr (hp.keep g.kept)) (h:=λx2 _ _ g _=>?_);rw[<-xJ]at g;obtain⟨W2,c2,Z2,e2,rfl⟩:=Ll (Sep.sees g At0);refine⟨sT,?_⟩;refine Ja a 8 _ (h:=⟨sT,?_⟩);refine dZ a 9 _ g (us:=[.slice W2 pc.wh.length c2,.slice Z2 pc.cols.length e2,I pc.group]) (h:=λ_ g=>⟨sT,?_⟩);refine Zb1 ?_;refine dn g (aeh (hl.keep g.kept)) (h:=λx7 _ hx7 g _=>?_);rw[<-hR]at hx7;have Hr:=XL g At0;rw[hx7]at Hr;obtain⟨v7,L7⟩:=x7;dsimp only at hx7 Hr;obtain⟨r7,hr7⟩: ∃r7,r7=eu L7:=⟨_,rfl⟩;rw[<-hr7]at Hr;obtain⟨⟨A7,c7,rfl,_,_⟩,_⟩:=id (Sep.sees Hr At0);have h7n:=(Sep.sees Hr At0).2.len;have g:=Hr;refine Zb4 ?_;refine dn g (zL (l:=R) C (mY g At2) (Sep.sees g At1) ⟨r7,Sep.sees g At0⟩ hqf oM (YH _ g.kept)) (h:=λx8 _ hx8 g _=>?_)
  refine Zb6 ?_;refine dn g (yc (mY g At3) oM) (h:=λx10 _ _ g _=>?_);obtain⟨K0,a,EA,_,_⟩:=Sep.dQ g At4;subst EA;obtain⟨K1,S,rfl,_,_⟩:=Sep.dQ g At0;refine Zb2 ?_;refine aR (λi:Nat=>[(0,.slice K0 co.length a),(4,av b4),(7,.slice A7 r7.length c7),(8,x8.1),(9,I (iq co pc R).2),(10,.slice K1 co.length S),(11,I i)]) (λi w'=>i<=co.length/\Mw.Sep w noB [bJ 54 7 aX (.slice K1 co.length S) (ny co i),eU x8.1 x8.2,ni (.slice A7 r7.length c7) r7 R,BR (agg [.slice W2 pc.wh.length c2,.slice Z2 pc.cols.length e2,I pc.group]) pc,bJ 54 7 aX (.slice K0 co.length a) co,blk b4 [.slice W2 pc.wh.length c2,.slice Z2 pc.cols.length e2,I pc.group] 26] w') (λi _=>co.length-i) 0 tR ⟨zaq _,g⟩ (λi τ _ hI=>?_);obtain⟨hi,g⟩:=hI;have Ey:co.length=(ny co i).length:=XP.symm
  try simp only[cK,like,aS,bK]
  refine Za4 ?_;refine Qn (Cp rfl (λS=>?_) (λS=>?_))
  . have bH:i<co.length:=oM
    obtain⟨c,hcx⟩:=get_some bH;have hwi:=aby hcx;refine Zb2 ?_;refine Vv (Gives.aae (l:=ny co i) (enc:=aX) Ey rfl rfl (ou Ey g At0) oM) (Vv (Gives.yH rfl (ou Ey g At0) oM) ?_);refine Vv (Gives.yH rfl (ou Ey g At0) oM) (Vv (Gives.Pd (i:=i) (f:=2) rfl (ou Ey g At0) hwi rfl) ?_);refine Ve ?_;refine Qn (Cp rfl (λS=>?_) (λS=>?_))
    . have hk2:c.type.kind=2:=S
      have hwc:nY c=⟨c.id,c.name,⟨3,c.type.null⟩,c.dflt⟩:=by unfold nY DX;rw[zac hk2]
      have hws:=XQ hcx;rw[hwc]at hws;refine Zb2 ?_;refine Vv (Gives.aae (l:=ny co i) (enc:=aX) Ey rfl rfl (ou Ey g At0) oM) (Vv (Gives.yH rfl (ou Ey g At0) oM) ?_);refine Vv (Gives.yH rfl (ou Ey g At0) oM) (Ns (enc:=aX) (l:=ny co i) (f:=2) ⟨c.id,c.name,⟨3,c.type.null⟩,c.dflt⟩ Ey g At0 hwi dC rfl rfl rfl rfl (h:=λ_ k=>?_));rw[hws]at k;refine Zb1 ?_;refine Vc ((i+1:Nat):Int) ?_;refine Zb1 ?_;exact aj (i+1) tR ⟨oM,k⟩ oM
    have hws:=UN hcx S;rw[hws]at g;refine Zb1 ?_;refine Vc ((i+1:Nat):Int) ?_;refine Zb1 ?_;exact aj (i+1) tR ⟨oM,g⟩ oM
  rw[XT oM]at g;refine JC (vD (yZ (Al (bC (fB (λ_:Unit=>[(0,.slice K0 co.length a),(4,av b4),(7,.slice A7 r7.length c7),(8,x8.1),(9,I (iq co pc R).2)]) (λ_ w'=>Mw.Sep w noB [eU x8.1 x8.2,ni (.slice A7 r7.length c7) r7 R,BR (agg [.slice W2 pc.wh.length c2,.slice Z2 pc.cols.length e2,I pc.group]) pc,bJ 54 7 aX (.slice K0 co.length a) co,blk b4 [.slice W2 pc.wh.length c2,.slice Z2 pc.cols.length e2,I pc.group] 26] w') ?_ ?_)))))
  . refine Za2 ?_
    refine Qn (Cp rfl (λk=>?_) (λk=>?_))
    . have hd0:(iq co pc R).2=0:=k
      refine Zb3 ?_;refine dn g (zL (l:=R) Cw (mY g At0) (Sep.sees g At3) ⟨r7,Sep.sees g At2⟩ hqf oM (YH _ g.kept)) (h:=λx12 _ amm k _=>?_);rw[TI hd0]at amm ⊢;refine Zb8 ?_;refine aF (t:=71) rfl (λS=>?_) (λS=>?_)
      . exact zap hd0 S
      refine Zb2 ?_;refine aD k (TA (hx8▸jw k At2) (amm▸jw k At0)) (h:=λ_ S _=>?_);refine Za2 ?_;refine Qn (Cp rfl (λk=>?_) (λk=>?_))
      . exact aB k
      refine Zb0 ?_;exact aA () tR S.dA.dA
    refine Zb0 ?_;exact aA () tR g.dA
  intro _ τ k k;simp only[cK,like,aS];refine Zb2 ?_;refine dn k (aaI (Sep.sees k At2) (by have:=C.outs;omega) (by have:=C.wh;omega) (λo ho=>by have:=C.st o ho;omega)) (h:=λx15 _ _ k _=>?_);obtain⟨K5,S,rfl,hk5,_⟩:=Sep.dQ k At0;have ar9:=Sep.aft k At0;have huf:=aeL C;have hup:=z8 (pc.wh++pc.cols.flatMap (·.steps));obtain⟨us,hus⟩: ∃us,us=Kk pc:=⟨_,rfl⟩;rw[show qR (pc.wh++pc.cols.flatMap (·.steps))=us from hus.symm]at hup;rw[<-hus]at k hk5 huf ⊢;refine Zb2 ?_;refine aR (λx:Nat×Int=>[(0,.slice K0 co.length a),(4,av b4),(7,.slice A7 r7.length c7),(8,x8.1),(9,I (iq co pc R).2),(14,I x.2),(15,.slice K5 us.length S),(16,I x.1)]) (λx w'=>(x.1<=us.length/\1<=x.2/\x.2<=x.1+1/\∀u∈us.take x.1,u≠x.2)/\Mw.Sep w noB [bJ 3 1 intCells (.slice K5 us.length S) us,eU x8.1 x8.2,ni (.slice A7 r7.length c7) r7 R,BR (agg [.slice W2 pc.wh.length c2,.slice Z2 pc.cols.length e2,I pc.group]) pc,bJ 54 7 aX (.slice K0 co.length a) co,blk b4 [.slice W2 pc.wh.length c2,.slice Z2 pc.cols.length e2,I pc.group] 26] w') (λx _=>us.length-x.1) (0,1) tR ⟨⟨zaq _,Int.le_refl _,Int.le_refl _,λu hu=>zap hu zao⟩,k⟩ (λx τ _ hI=>?_);obtain⟨i,d⟩:=x;obtain⟨⟨hi,hd1,hdi,iC⟩,S⟩:=hI;dsimp only at hi hd1 hdi iC S
  try simp only[cK,like,aS]
  refine Za4 ?_;refine Qn (Cp rfl (λk=>?_) (λk=>?_))
  . have bH:i<us.length:=oM
    obtain⟨u,hu⟩:=get_some bH;have yY:us.take (i+1)=us.take i++[u]:=by rw[zbd,hu];rfl
    refine Zb2 ?_;refine Vv (Gives.jJ (l:=us) rfl rfl (jG S At0) bH) (Vv (Gives.Ye rfl (Sep.aJ _) (jG S At0) hu rfl) ?_);refine Za2 ?_;refine Qn (Cp rfl (λk=>?_) (λk=>?_))
    . have hud:u=d:=k
      have af9: ∀v∈us.take (i+1),v≠d+1:=λv hv=>by
        rw[yY]at hv
        rcases zbi.1 hv with hv | hv
        . have Dp:v<u:=by
            obtain⟨j,hj,e⟩:=zfo.1 hv;rw[zaj]at hj;rw[List.getElem_take]at e;have VX:us[i]? =some us[i]:=zaa bH;rw[VX]at hu;injection hu with hu
            rw[<-e,<-hu];exact zfr.1 hup j i _ _ oM
          omega
        rw[zar]at hv;omega
      refine Zb1 ?_;refine Vc (d+1) ?_;refine Zb2 ?_;refine Vc ((i+1:Nat):Int) ?_;refine Zb1 ?_
      first
      | exact aj (i+1,d+1) tR ⟨⟨dO,dO,dO,af9⟩,S⟩ dO
      | exact aj (i+1,d) tR ⟨⟨dO,dO,dO,af9⟩,S⟩ dO
    have hud:u≠d:=k
    have af9: ∀v∈us.take (i+1),v≠d:=λv hv=>by
      rw[yY]at hv
      rcases zbi.1 hv with hv | hv
      . exact iC v hv
      rw[zar]at hv;omega
    refine Zb1 ?_;refine Vc ((i+1:Nat):Int) ?_;refine Zb1 ?_
    first
    | exact aj (i+1,d+1) tR ⟨⟨dO,dO,dO,af9⟩,S⟩ dO
    | exact aj (i+1,d) tR ⟨⟨dO,dO,dO,af9⟩,S⟩ dO
  rw[zax oM]at iC;have hnu: ∀y∈pc.wh++pc.cols.flatMap (·.steps),y.kind=1->(yC d).id≠y.n:=λy hy hk e=>iC y.n (by rw[hus];exact sG.2 ⟨y,hy,hk,rfl⟩) e.symm;have Cx:abx (co++[yC d]) pc:=⟨C0.fit,by rw[zad,Rq];show n+1<=12;omega,C0.outs,C0.wh,C0.st⟩;refine Zb1 ?_;refine dn S (yc (mY S At4) oM) (h:=λx17 _ _ k _=>?_);refine Mv ?_;refine Vb (aM ⟨4,false⟩) ?_;refine Vv (Gives.build (out:=aX (yC d)) (Fills.one rfl rfl rfl sM rfl (Fills.many rfl rfl (zaw rfl) rfl Fills.nil))) (Bs k ([yC d].flatMap aX) (λbs _ k _=>?_));refine gP k (news:=[yC d]) At0 (by unfold maxLen;simp only[zah];omega) (by simp only[zah];omega) (cells_one (λ_=>rfl) _) (h:=?_);intro v17 k S;have S:Mw.Sep w noB [bJ 54 7 aX v17 (co++[yC d]),eU x8.1 x8.2,ni (.slice A7 r7.length c7) r7 R,BR (agg [.slice W2 pc.wh.length c2,.slice Z2 pc.cols.length e2,I pc.group]) pc,bJ 54 7 aX (.slice K0 co.length a) co,blk b4 [.slice W2 pc.wh.length c2,.slice Z2 pc.cols.length e2,I pc.group] 26] k:=S.aL.dA;refine Zb2 ?_;refine aR (λi:Nat=>[(0,.slice K0 co.length a),(4,av b4),(7,.slice A7 r7.length c7),(8,x8.1),(9,I (iq co pc R).2),(14,I d),(17,v17),(18,I i)]) (λi w'=>i<=co.length/\Mw.Sep w noB [bJ 54 7 aX v17 (co++[yC d]),eU x8.1 x8.2,ni (.slice A7 r7.length c7) r7 R,BR (agg [.slice W2 pc.wh.length c2,.slice Z2 pc.cols.length e2,I pc.group]) pc,bJ 54 7 aX (.slice K0 co.length a) co,blk b4 [.slice W2 pc.wh.length c2,.slice Z2 pc.cols.length e2,I pc.group] 26] w') (λi _=>co.length-i) 0 tR ⟨zaq _,S⟩ (λi τ _ hI=>?_)
  obtain⟨Mq,S⟩:=hI
  try simp only[cK,like,aS]
  refine Za4 ?_;refine Qn (Cp rfl (λk=>?_) (λk=>?_))
  . have Dp:i<co.length:=oM
    obtain⟨c,hcx⟩:=get_some Dp;refine Zb2 ?_;refine Vv (Gives.jJ (l:=co) rfl rfl (jG S At4) Dp) (Vv (Gives.yH rfl (jG S At4) oM) ?_);refine Vv (Gives.Pd (i:=i) (f:=0) rfl (jG S At4) hcx rfl) (Za2 ?_);refine Qn (Cp rfl (λk=>?_) (λk=>?_))
    . refine Sr (aD S (FJ (YH _ S.kept)) (h:=λ_ k _=>?_))
      refine Zb1 ?_;exact⟨rfl,k.kept⟩
    refine Zb1 ?_;refine Vc ((i+1:Nat):Int) ?_;refine Zb1 ?_;exact aj (i+1) tR ⟨oM,S⟩ oM
  refine Zb2 ?_;have Hn:=Sep.nE (dN S) 82 2 aG;refine aR (λx:Nat×Value×List Held=>[(0,.slice K0 co.length a),(4,av b4),(7,.slice A7 r7.length c7),(8,x8.1),(9,I (iq co pc R).2),(17,v17),(19,x.2.1),(20,I x.1)]) (λx w'=>(x.1<=r7.length/\x.2.2.map (·.2)=rQ (R.take x.1) (mK x.1)/\∀y∈R.take x.1,co.length=y.row.length)/\Mw.Sep w noB [bJ 82 2 aG x.2.1 (eu x.2.2),GH x.2.2,ni (.slice A7 r7.length c7) r7 R,bJ 54 7 aX v17 (co++[yC d]),eU x8.1 x8.2,BR (agg [.slice W2 pc.wh.length c2,.slice Z2 pc.cols.length e2,I pc.group]) pc,bJ 54 7 aX (.slice K0 co.length a) co,blk b4 [.slice W2 pc.wh.length c2,.slice Z2 pc.cols.length e2,I pc.group] 26] w') (λx _=>r7.length-x.1) (0,.slice none 0 0,[]) tR ⟨⟨zaq _,rfl,λy hy=>zap hy zao⟩,Hn.bE.bE.fC.fC.fC⟩ (λx τ _ hI=>?_);obtain⟨i,v19,L19⟩:=x;obtain⟨⟨hi3,YI,hrw⟩,k⟩:=hI;dsimp only at hi3 YI hrw k
  try simp only[cK,like,aS]
  refine Za4 ?_;refine Qn (Cp rfl (λS=>?_) (λS=>?_))
  . have ahY:i<r7.length:=oM
    obtain⟨o,ho⟩:=get_some (show i<R.length from oM);obtain⟨x,hx⟩:=get_some ahY;obtain⟨xv,xn⟩:=x;have hN:=Sep.sees k At2;obtain⟨X,cX,hxv,_,_⟩:=hN.2.2 i _ o hx ho;dsimp only at hxv;subst hxv
    have hxw:xn=o.w:=by
      have:=zbb (λz=>z[i]?) hN.2.1;simp only[zcr,hx,ho,zda]at this;injection this
    have asf:=hqr o (zam ho);refine Zb2 ?_;refine Vv (Gives.jJ rfl rfl (bL (Sep.sees k At2).1) ahY) (Vv (Gives.yH rfl (bL (Sep.sees k At2).1) oM) ?_);refine Vv (Gives.jc (i:=i) (f:=0) rfl (Sep.aJ _) (bL (Sep.sees k At2).1) hx rfl) (Za4 ?_);refine Qn (Cp rfl (λS=>?_) (λS=>?_))
    . refine Sr (aD k (FJ (YH _ k.kept)) (h:=λ_ a _=>?_))
      refine Zb1 ?_;exact⟨rfl,a.kept⟩
    have BD:co.length=o.row.length:=by have h:=S;omega
    refine Sk (Ds (λa _ S=>?_));refine Zb3 ?_;refine Gp a 3 rfl rfl (λ_=>(Gives.jJ rfl rfl (bL (Sep.sees S At2).1) ahY)) (Gp a 4 rfl rfl (λ_=>(Gives.yH rfl (bL (Sep.sees S At2).1) oM)) ?_);refine Gl a 5 rfl rfl (Gives.jc (i:=i) (f:=0) rfl (Sep.aJ _) (bL (Sep.sees S At2).1) hx rfl) (Gm a 7 ?_);refine Gp a 8 rfl rfl (λ_=>(Gives.anq (b:=4) rfl rfl oM)) (Gp a 9 rfl rfl (λ_=>(Gives.pR (l:=[120,121,122]) (i:=i%4) rfl rfl (by show i%4<=3;omega))) ?_);refine Gb a 10 (ah (gM i)) ?_;refine Gm a 13 ?_;refine Zb1 ?_;refine Gp a 15 rfl rfl (λ_=>(Gives.jJ rfl rfl (bL (Sep.sees S At2).1) ahY)) (Gp a 16 rfl rfl (λ_=>(Gives.yH rfl (bL (Sep.sees S At2).1) oM)) ?_);refine Gl a 17 rfl rfl (Gives.jc (i:=i) (f:=1) rfl (Sep.aJ _) (bL (Sep.sees S At2).1) hx rfl) (mI a (e1:=6) (e2:=11) kR ?_ ?_)
    . refine ng a 6 [(17,false),(16,true),(15,true),(14,true),(13,true),(10,true),(9,true),(8,true),(7,true),(0,true)] S (GA (l:=o.row) (by first | exact(Sep.sees S At2).2.2 i _ o hx ho | exact(Sep.sees S At3).2.2 i _ o hx ho) oM) (h:=λy _ _ g _=>⟨(dw rfl kR (Gives.jc (i:=i) (f:=1) rfl (Sep.aJ _) (show Mw.Rd _ A7 aG 2 r7 from by first | exact bL (Sep.sees g At2).1 | exact bL (Sep.sees g At3).1 | exact bL (Sep.sees g At4).1) hx rfl) rfl (aC (aC (aC (aC (aC (aC (aC (aC (aC (eZ))))))))))),?_⟩)
      refine Gz a 11 [(17,false),(16,true),(15,true),(14,true),(13,true),(0,true)] g ([gM i].flatMap ah) (h:=λbs _ g=>⟨(dw rfl kR (Gives.jc (i:=i) (f:=1) rfl (Sep.aJ _) (show Mw.Rd _ A7 aG 2 r7 from by first | exact bL (Sep.sees g At2).1 | exact bL (Sep.sees g At3).1 | exact bL (Sep.sees g At4).1) hx rfl) rfl (aC (aC (aC (aC (aC (eZ))))))),?_⟩)
      first
      | refine jP a 12 [(17,false),(16,true),(15,true),(14,true),(13,true),(0,true)] g (news:=[gM i]) At0 (by unfold maxLen;simp only[zah];omega) (by simp only[zah];omega) (cells_one (λ_=>rfl) _) (h:=λv142 q r=>?_)
      | refine jP a 12 [(17,false),(16,true),(15,true),(14,true),(13,true),(0,true)] g.aL (news:=[gM i]) At0 (by unfold maxLen;simp only[zah];omega) (by simp only[zah];omega) (cells_one (λ_=>rfl) _) (h:=λv142 q r=>?_)
      obtain⟨Y,cY,rfl,_,_⟩:=Sep.dQ r At0;refine⟨(dw rfl kR (Gives.jc (i:=i) (f:=1) rfl (Sep.aJ _) (show Mw.Rd _ A7 aG 2 r7 from by first | exact bL (Sep.sees r At2).1 | exact bL (Sep.sees r At3).1 | exact bL (Sep.sees r At4).1) hx rfl) rfl (aC (aC (aC (aC (aC (eZ))))))),?_⟩;refine Gb a 18 (aG (.slice Y (o.row++[gM i]).length cY,xn)) ?_;refine Gz a 19 _ r ([(Value.slice Y (o.row++[gM i]).length cY,xn)].flatMap aG) (h:=λbs2 _ r=>⟨sT,?_⟩)
      have amo:(eu L19).length=i:=by
        have:=zbb List.length YI;rw[zaf]at this;unfold eu;rw[zaf,this];unfold rQ;rw[zfz,qO,zaj];omega
      refine jP a 20 _ r (news:=[(Value.slice Y (o.row++[gM i]).length cY,xn)]) At1 (by unfold maxLen;simp only[zah];omega) (by simp only[zah];omega) (λu hu=>zbf.1 (show([(Value.slice Y (o.row++[gM i]).length cY,xn)].flatMap aG).all Value.oneCell'=true from rfl) u hu) (h:=λv150 _ Hw=>?_);have Hp:=jV (x:=.slice Y (o.row++[gM i]).length cY) (o:=⟨o.row++[gM i],o.w⟩) Hw.aU.aL;rw[hxw,show eu L19++[(Value.slice Y (o.row++[gM i]).length cY,o.w)]=eu (L19++[(Value.slice Y (o.row++[gM i]).length cY,(⟨o.row++[gM i],o.w⟩:aH))]) by unfold eu;rw[zau];rfl]at Hp;have r:=Hp.aL;have akh:(L19++[(Value.slice Y (o.row++[gM i]).length cY,(⟨o.row++[gM i],o.w⟩:aH))]).map (·.2)=rQ (R.take (i+1)) (mK (i+1)):=by rw[OT ho,zau,YI];rfl
      refine⟨sT,?_⟩;refine Ja a 21 _ (h:=⟨sT,?_⟩);refine Zb1 ?_;refine Vc ((i+1:Nat):Int) ?_;refine Zb1 ?_;exact aj (i+1,v150,_) tR ⟨⟨dO,akh,λy hy=>by
      rw[show R.take (i+1)=R.take i++[o] by rw[zbd,ho];rfl]at hy
      rcases zbi.1 hy with hy | hy
      . exact hrw y hy
      rw[zar]at hy;rw[hy];exact BD⟩,r⟩ dO
    refine fG a 11 [(17,false),(16,true),(15,true),(14,true),(13,true),(5,false),(4,true),(3,true),(2,true),(1,true),(0,true)] S (xs:=[.tmp 140]) (out:=[gM i].flatMap ah) (dK.many rfl rfl dK.nil) rfl rfl rfl (h:=λbs _ r=>⟨(dw rfl kR (Gives.jc (i:=i) (f:=1) rfl (Sep.aJ _) (show Mw.Rd _ A7 aG 2 r7 from by first | exact bL (Sep.sees r At2).1 | exact bL (Sep.sees r At3).1 | exact bL (Sep.sees r At4).1) hx rfl) rfl (aC (aC (aC (aC ((dw rfl kR (Gives.jc (i:=i) (f:=0) rfl (Sep.aJ _) (show Mw.Rd _ A7 aG 2 r7 from by first | exact bL (Sep.sees r At2).1 | exact bL (Sep.sees r At3).1 | exact bL (Sep.sees r At4).1) hx rfl) rfl (aC (aC (aC (aC (aC (eZ))))))))))))),?_⟩);refine fV a 6 [(17,false),(16,true),(15,true),(14,true),(13,true),(0,true)] r (GA (l:=o.row) (by first | exact(Sep.sees r At2).2.2 i _ o hx ho | exact(Sep.sees r At3).2.2 i _ o hx ho) oM) (h:=λy _ _ r _=>⟨(dw rfl kR (Gives.jc (i:=i) (f:=1) rfl (Sep.aJ _) (show Mw.Rd _ A7 aG 2 r7 from by first | exact bL (Sep.sees r At2).1 | exact bL (Sep.sees r At3).1 | exact bL (Sep.sees r At4).1) hx rfl) rfl (aC (aC (aC (aC (aC (eZ))))))),?_⟩)
    first
    | refine jP a 12 [(17,false),(16,true),(15,true),(14,true),(13,true),(0,true)] r (news:=[gM i]) At0 (by unfold maxLen;simp only[zah];omega) (by simp only[zah];omega) (cells_one (λ_=>rfl) _) (h:=λv142 S q=>?_)
    | refine jP a 12 [(17,false),(16,true),(15,true),(14,true),(13,true),(0,true)] r.aL (news:=[gM i]) At0 (by unfold maxLen;simp only[zah];omega) (by simp only[zah];omega) (cells_one (λ_=>rfl) _) (h:=λv142 S q=>?_)
    obtain⟨Y,cY,rfl,_,_⟩:=Sep.dQ q At0;refine⟨(dw rfl kR (Gives.jc (i:=i) (f:=1) rfl (Sep.aJ _) (show Mw.Rd _ A7 aG 2 r7 from by first | exact bL (Sep.sees q At2).1 | exact bL (Sep.sees q At3).1 | exact bL (Sep.sees q At4).1) hx rfl) rfl (aC (aC (aC (aC (aC (eZ))))))),?_⟩;refine Gb a 18 (aG (.slice Y (o.row++[gM i]).length cY,xn)) ?_;refine Gz a 19 _ q ([(Value.slice Y (o.row++[gM i]).length cY,xn)].flatMap aG) (h:=λbs2 _ q=>⟨sT,?_⟩)
    have amo:(eu L19).length=i:=by
      have:=zbb List.length YI;rw[zaf]at this;unfold eu;rw[zaf,this];unfold rQ;rw[zfz,qO,zaj];omega
    refine jP a 20 _ q (news:=[(Value.slice Y (o.row++[gM i]).length cY,xn)]) At1 (by unfold maxLen;simp only[zah];omega) (by simp only[zah];omega) (λu hu=>zbf.1 (show([(Value.slice Y (o.row++[gM i]).length cY,xn)].flatMap aG).all Value.oneCell'=true from rfl) u hu) (h:=λv150 _ Hw=>?_);have Hp:=jV (x:=.slice Y (o.row++[gM i]).length cY) (o:=⟨o.row++[gM i],o.w⟩) Hw.aU.aL;rw[hxw,show eu L19++[(Value.slice Y (o.row++[gM i]).length cY,o.w)]=eu (L19++[(Value.slice Y (o.row++[gM i]).length cY,(⟨o.row++[gM i],o.w⟩:aH))]) by unfold eu;rw[zau];rfl]at Hp;have q:=Hp.aL;have akh:(L19++[(Value.slice Y (o.row++[gM i]).length cY,(⟨o.row++[gM i],o.w⟩:aH))]).map (·.2)=rQ (R.take (i+1)) (mK (i+1)):=by rw[OT ho,zau,YI];rfl
    refine⟨sT,?_⟩;refine Ja a 21 _ (h:=⟨sT,?_⟩);refine Zb1 ?_;refine Vc ((i+1:Nat):Int) ?_;refine Zb1 ?_;exact aj (i+1,v150,_) tR ⟨⟨dO,akh,λy hy=>by
    rw[show R.take (i+1)=R.take i++[o] by rw[zbd,ho];rfl]at hy
    rcases zbi.1 hy with hy | hy
    . exact hrw y hy
    rw[zar]at hy;rw[hy];exact BD⟩,q⟩ dO
  have hiR:i=R.length:=oM;rw[hiR,zbo]at YI hrw;refine Zb3 ?_;have hmL:=aeN (l:=R);refine dn k (zL (l:=rQ R (mK R.length)) Cx (mY k At3) (Sep.sees k At5) (YI▸jw k.bD At0) (aeM hqf) oM (YH _ k.kept)) (h:=λx21 _ amq q _=>?_)
  rw[TM hnu hrw (λe he=>by
    obtain⟨j,_,rfl⟩:=zat.1 he;exact abz d j) (qO _).symm]at amq |-
  refine Zb9 ?_;refine aF (t:=161) rfl (λa=>?_) (λa=>?_)
  . refine Zb2 ?_
    refine aD q (TA (hx8▸jw q At5) (amq▸jw q At0)) (h:=λ_ q _=>?_);refine Zb2 ?_;refine aF (t:=166) rfl (λk=>?_) (λk=>?_)
    . refine On (aD q (FJ (YH _ q.kept)) (h:=λ_ q _=>?_))
      refine Zb2 ?_;exact⟨rfl,q.kept⟩
    exact aB k
  exact aB a
end
end Go.Proofs.YtkfpleidaoaonaaGreatDoor
namespace Go.Mw
open Go.RowKit Go.ChangeShapes Go.WideShapes Go.Deep
section
variable {H:Type} {enc:Td×Value->H} {P:Program}
theorem Cj (hl:laidOutB P=true) {W W':Wd} (hk:Kept noB W W') {sp:Nat->Bool}: ∀{ts:List Td} {vs:LV} {ds:List (DataW H)} {ps:List MemPlace},(∀t∈ts,P.readableRec t=true/\t<P.types.size)->
    DataW.TrodAll enc P W 0 (λ_=>true) true ts vs ds ps->(∀x∈ps,x.block<W.heap.size)->(∀x∈ps,sp x.block=true)->DataW.TrodAll enc P W' 0 sp true ts vs ds ps
  | [],[],[],_,_,h,_,_=>h
  | t::ts,v::vs,d::ds,ps,ht,⟨p,q,h1,h2,e⟩,bH,F9=>by
    subst e
    exact⟨p,q,WideElems.Trod_stays hl (ht t zae).1 (ht t zae).2 h1 (λx hx=>hk.below.same (bH x (zcd _ hx))) (λx hx=>F9 x (zcd _ hx)),
      Cj hl hk (λu hu=>ht u (zag _ hu)) h2 (λx hx=>bH x (zce _ hx)) (λx hx=>F9 x (zce _ hx)),rfl⟩
  | [],[],_::_,_,_,h,_,_=>h.elim
  | [],_::_,_,_,_,h,_,_=>by cases ‹List (DataW H)› <;>exact h.elim
  | _::_,[],_,_,_,h,_,_=>h.elim
  | _::_,_::_,[],_,_,h,_,_=>h.elim
theorem aeO {f:Func} {s:ChangeSpec} {apart fresh ahZ again:Bool} {W W':Wd} {args:Array Value} {t:Td} {ds gs:List (DataW H)} {before:List MemPlace} (hl:laidOutB P=true)
    (hW:DataW.Whole enc P f.params.toList s.vars apart W args.toList ds gs before) (aiL:s.vars=[]) (hr:f.resultTypes= #[t]) (hb:P.underlying t=some .bool) (dS:(f.params.toList.all λt=>P.readableRec t&&decide (t<P.types.size))=true)
    (hs:s.fn H (ds++gs)={results:=[.lit (.bool true)],args:=ds}) (hk:Kept noB W W') (eH:Value.okWide P W' .any 0 t (.bool true)):s.post enc P f apart fresh ahZ again W args (.bool true) W':=by
  have hp: ∀t∈f.params.toList,P.readableRec t=true/\t<P.types.size:=λt ht=>by
    have:=zbf.1 dS t ht;simpa using this
  have hW':=hW;obtain⟨pa,pv,hA,hV,rfl,hz,hn⟩:=hW
  have acC:gs=[]/\pv=[]:=by
    rw[aiL]at hV;exact trodVars_none hV
  obtain⟨rfl,rfl⟩:=acC;have bH: ∀p∈pa,p.block<W.heap.size:=λp hp=>hW'.lt p (zcd _ hp)
  have au: ∀(b:Nat) (sp:Nat->Bool) (hd:Bool),DataW.TrodAll enc P W' b sp hd f.resultTypes.toList ((Value.bool true).resultList f.resultTypes.size) (s.fn H (ds++[])).results []:=by
    intro b sp hd;rw[hs,hr];exact trodAll_mk1 (shut_bool hb true)
  have Cz: ∀sp:Nat->Bool,(∀p∈pa,sp p.block=true)->DataW.TrodAll enc P W' 0 sp true f.params.toList args.toList (s.fn H (ds++[])).args pa:=by
    intro sp F9;rw[hs];exact Cj hl hk hp hA bH F9
  have hvs: ∀sp:Nat->Bool,DataW.TrodVars enc P W' sp s.vars (s.fn H (ds++[])).vars []:=by
    intro sp;rw[aiL,hs];exact rfl
  refine⟨ds,[],pa++[],[],pa,[],hW',au _ _ _,Cz _ (λp hp=>by simpa using bH p hp),hvs _,World.keptBut_mono (λp hp=>⟨hp,?_⟩) (hk.below.frame (· ∈pa++[])),λ_=>?_⟩
  . simpa using hp
  refine⟨λj t' r hj hv=>?_,_,_,([]++pa)++[],⟨[]++pa,[],trodAll_append (Cz _ (λ_ _=>rfl)) (au _ _ _),hvs _,rfl,?_,?_⟩,?_⟩
  . exact ok_one hr rfl eH j t' r hj hv
  . intro b off hp
    have hin:MemPlace.cell b off∈pa:=by simpa using hp
    rw[hk.below.frozen (bH _ hin)];exact hz b off (by simpa using hin)
  . intro ha
    have:=hn ha;simpa using this
  intro p hp _;simpa using hp
theorem zM {α:Type} {Q:Nat->α->Prop}: ∀n:Nat,(∀i,i<n->∃x,Q i x)->∃l:List α,l.length=n/\∀i x,l[i]? =some x->Q i x
 | 0,_=>⟨[],rfl,λi x h=>by simp at h⟩
 | n+1,h=>by
  obtain⟨l,h1,h2⟩:=zM n λi hi=>h i oM;obtain⟨x,hx⟩:=h n oM;refine⟨l++[x],by simp[h1],λi y hy=>?_⟩;rw[List.getElem?_append]at hy
  split at hy
  .exact h2 i y hy
  rename_i hge
  have hi:i=n:=by
   rcases zdr (i-l.length) 1 with h3 | h3
   .omega
   rw[zcn (by simpa using h3)]at hy;cases hy
  subst hi;rw[h1,zet]at hy;injection hy with hy
  rw[<-hy];exact hx
theorem zN {α:Type} {f:α->LV} {s:Nat} (hf: ∀x,(f x).length=s): ∀(l:List α) (k:Nat) (v:Value),(l.flatMap f)[k]? =some v->∃i j x,l[i]? =some x/\(f x)[j]? =some v/\k=i*s+j
 | [],k,v,h=>by simp at h
 | x::l,k,v,h=>by
  rw[zbc,List.getElem?_append]at h
  split at h
  .exact⟨0,k,x,rfl,h,oM⟩
  rename_i hge;obtain⟨i,j,y,h1,h2,h3⟩:=zN hf l _ v h;rw[hf]at h3 hge;exact⟨i+1,j,y,by simpa using h1,h2,by rw[Nat.add_mul];omega⟩
theorem zO {α:Type} {f:α->LV} {s:Nat} (hf: ∀x,(f x).length=s): ∀l:List α,(l.flatMap f).length=l.length*s
 | []=>sM
 | x::l=>by rw[zbc,zad,hf,zO hf l,zal,Nat.add_mul];omega
theorem OU {α:Type} {f:α->LV} {good:α->Prop} {s:Nat} {t e:Td} {W:Wd} {r:Reach} {base:Nat} {v:Value} {d:DataW H} {ps:List MemPlace} (ht:P.underlying t=some (.slice e)) (hC:P.cellsOf e=s) (hf: ∀x,(f x).length=s)
    (hel: ∀n cs y,cs.length=s->DataW.trod enc P W 0 (λ_=>true) true n e cs=some y->∃x,cs=f x/\good x) (hv:Value.okWide P W r base t v) (h:DataW.Trod enc P W 0 (λ_=>true) true t v d ps):
    ∃A c,∃l:List α,v=.slice A l.length c/\l.length<=c/\c<=maxLen/\gV W A l.length s (l.flatMap f)/\∀x∈l,good x:=by
  obtain⟨a0,len0,cap0,rfl⟩:=okWide_slice ht hv;obtain⟨fuel,hfu⟩:=h
  rcases open_slice ht hfu with⟨h0,_⟩ | ⟨a,len,cap,m,n,D,Pl,hcs,_,hl,hm,hmm,_,hi⟩
  . have h0:[Value.slice a0 len0 cap0]=[.slice none 0 0]:=h0
    injection h0 with h0 _
    exact⟨none,0,[],h0,zbk _,zaq _,gV.nil _ _ _,λ_ h=>by cases h⟩
  have hcs:[Value.slice a0 len0 cap0]=[.slice (some a) len cap]:=hcs;injection hcs with hcs _
  have Ey:m=cap:=by simpa using hmm
  subst Ey
  obtain⟨l,h1,h2⟩:=zM (α:=α) (Q:=λi x=>good x/\∀j u,(f x)[j]? =some u->W.cell? (a.add (i*s+j))=some u) len (λi Zx=>by
    obtain⟨cs',hc,ht'⟩:=hi i oM;rw[hC]at hc;obtain⟨_,Rq,hat⟩:=World.cells?_some hc;obtain⟨x,hx,hg⟩:=hel _ _ _ Rq ht';refine⟨x,hg,λj u hu=>?_⟩;have hj:j<s:=by rw[<-hf x];exact(zaz.1 hu).1
    have EB:=hat j hj;rw[<-Go.Deep.add_add,EB,hx];exact hu)
  subst h1;refine⟨some a,m,l,hcs,hl,hm,⟨zO hf l,λ_=>⟨a,rfl,λk u hk=>?_⟩⟩,λx hx=>?_⟩
  . obtain⟨i,j,x,Zx,hj,rfl⟩:=zN hf l k u hk
    exact(h2 i x Zx).2 j u hj
  obtain⟨i,Zx⟩:=List.mem_iff_getElem?.1 hx;exact(h2 i x Zx).1
theorem mD {e:Td} {fs:Array Field} {W:Wd} {base n:Nat} {sp:Nat->Bool} {held:Bool} {cs:LV} {y:DataW H×List MemPlace} (he:P.underlying e=some (.struct fs)) (qY:oneCellFields P fs=true) (h:DataW.trod enc P W base sp held n e cs=some y) (_hC:P.cellsOf e=fs.size) (Rq:cs.length=fs.size):
    ∀(j:Nat) (fd:Field),fs[j]? =some fd->∃v y' n',cs[j]? =some v/\DataW.trod enc P W base sp held n' fd.type [v]=some y':=by
  obtain⟨ys,n',hn',hy,hlen,hyl,hf⟩:=DataW.trod_struct he h;intro j fd hj;obtain⟨ho,hk⟩:=hone_of qY j fd hj;have hjl:j<fs.size:=(zcq.1 hj).1;have h1:=hf j fd hj;rw[ho,hk]at h1
  have hone':(cs.drop j).take 1=[cs[j]'oM]:=by
    rw[zbn oM];rfl
  rw[hone']at h1;have hys:ys[j]? =some (ys[j]'oM):=zaa oM;exact⟨_,_,_,zaa oM,h1.trans hys⟩
end
end Go.Mw
namespace Go.Proofs.YtkfpleidaoaonaaGreatDoor
open Go Go.Mw Go.Lib Go.RowKit Go.Proofs.Tryz
set_option maxRecDepth 100000
theorem alf:ownKnob prog.godebug=none:=kR
theorem ajo:laidOutB prog=true:=by kernel_rfl
def Ze:List (String×DataW Unit):=[("math/bits.deBruijn32tab",Rows.laid_math_bits_deBruijn32tab),("math/bits.deBruijn64tab",Rows.laid_math_bits_deBruijn64tab),("internal/strconv.uint64pow10",Rows.laid_internal_strconv_uint64pow10),("unicode/utf8.acceptRanges",Rows.laid_unicode_utf8_acceptRanges),("strconv.ErrRange",Rows.laid_strconv_ErrRange),("strconv.ErrSyntax",Rows.laid_strconv_ErrSyntax),("unicode/utf8.first",Rows.laid_unicode_utf8_first)]
theorem ahd:U8Extra prog Tryz.lays260_ren:=⟨kR,kR,kR,kR,kR,kR,kR⟩
theorem aeP:Rows.laid_unicode_utf8_first=firstData:=Pinned.utf8First_eq
theorem abA:(Rows.laid_unicode_utf8_acceptRanges:DataW Unit)=acceptData:=kR
theorem pow_eq:(Rows.laid_internal_strconv_uint64pow10:DataW Unit)=tabData .u64 pow10Tab:=kR
theorem Zf: "*" ++ "errors.errorString" = "*errors.errorString" :=dC
theorem aeQ (u:Td) (h:prog.typeName? 3 u=some "*errors.errorString"):u=400:=
 typeName_ptr_named (nm:= "errors.errorString") (by rw[Zf];kernel_rfl) kR dC u (by rw[Zf];exact h)
theorem UR:prog.cellsOf 402=1:=kR
theorem UU:prog.cellsOf 9=1:=kR
theorem aeR {W:Wd} (h0:laidMetH prog Ze W) (hsh:W.ShapedOpen prog):gQ W:=by
 rw[MakeChecks.laidMetH_plain _ _ _ kR]at h0;have h:=h0;refine⟨?_,?_,?_,?_,?_⟩
 .exact utf8Tabs_of_reads Tryz.lays260 ahd (aeP▸Lib.laidMet.reads h (by unfold Ze;simp)) (abA▸Lib.laidMet.reads h (by unfold Ze;simp))
 .obtain⟨g,t,cs,fuel,p,hg,hty,hvar,hd⟩:=Lib.laidMet.reads (n:= "internal/strconv.uint64pow10") h (by unfold Ze;exact .tail _ (.tail _ (.head _)))
  have hg':prog.globalNamed "internal/strconv.uint64pow10" =some 3:=kR;obtain rfl:=Option.some.inj (hg'.symm.trans hg);have hty':(prog.globals[3]?).map (·.type)=some 404:=kR;obtain rfl:=Option.some.inj (hty'.symm.trans hty);rw[pow_eq]at hd;have hcs:=cells_of_tab underlying404 underlying121 kR kR hd;unfold Lib.TabIs;rw[hvar,<-hcs]
 .obtain⟨a,s,hv,_⟩:=laid_sentinel (g:=1) (ti:=183) (tp:=400) (te:=402) (ts:=9) h.tail.tail.tail.tail.tail kR kR underlying183 aeQ underlying400 underlying402 rfl rfl underlying9 UR UU
  exact⟨_,_,hv⟩
 .obtain⟨a,s,hv,_⟩:=laid_sentinel (g:=2) (ti:=183) (tp:=400) (te:=402) (ts:=9) h.tail.tail.tail.tail kR kR underlying183 aeQ underlying400 underlying402 rfl rfl underlying9 UR UU
  exact⟨_,_,hv⟩
 exact Tryz.laysM219.s1_3 W hsh
open Go.ChangeShapes Go.WideShapes
section
variable {H:Type} {enc:Td×Value->H} {W:Wd} {r:Reach} {base:Nat} {v:Value} {d:DataW H} {ps:List MemPlace}
theorem Q5 {n:Int} {k:IntKind} (hk:k=.i64) (h:(Lit.int k n).wf=true):fits n:=by
 subst hk;simp[Lit.wf,IntKind.min,IntKind.max,IntKind.bits,IntKind.signed]at h;unfold fits;omega
theorem Da (s:ByteArray):Value.string s=str s.data.toList:=by
 unfold str
 congr 1
theorem OV {n:Nat} {cs:LV} {y:DataW H×List MemPlace} (hl:cs.length=3) (hc:DataW.trod enc prog W 0 (λ_=>true) true n 52 cs=some y): ∃x:ay,cs=ah x/\fits x.n:=by
 have hf:=mD underlying52 kR hc kR hl;obtain⟨v0,_,_,JB,h0⟩:=hf 0 _ rfl;obtain⟨v1,_,_,Pq,h1⟩:=hf 1 _ rfl;obtain⟨v2,_,_,hv2,h2⟩:=hf 2 _ rfl;obtain⟨b,hb,_⟩:=DataW.trod_bool underlying4 h0;obtain⟨m,hm,_,wm⟩:=DataW.trod_int underlying2 h1;obtain⟨s,hs,_⟩:=DataW.trod_string underlying9 h2;injection hb with hb _
 injection hm with hm _
 injection hs with hs _
 subst hb hm hs
 match cs,hl with
 | [c0,c1,c2],_=>
  simp at JB Pq hv2;subst JB Pq hv2;refine⟨⟨b,m,s.data.toList⟩,?_,Q5 rfl wm⟩;rw[Da];rfl
theorem abB {n:Nat} {cs:LV} {y:DataW H×List MemPlace} (hl:cs.length=2) (hc:DataW.trod enc prog W 0 (λ_=>true) true n 50 cs=some y): ∃x:bN,cs=aM x:=by
 have hf:=mD underlying50 kR hc kR hl;obtain⟨v0,_,_,JB,h0⟩:=hf 0 _ rfl;obtain⟨v1,_,_,Pq,h1⟩:=hf 1 _ rfl;obtain⟨m,hm,_,_⟩:=DataW.trod_int underlying3 h0;obtain⟨b,hb,_⟩:=DataW.trod_bool underlying4 h1;injection hb with hb _
 injection hm with hm _
 subst hb hm
 match cs,hl with
 | [c0,c1],_=>
  simp at JB Pq;subst JB Pq;exact⟨⟨m,b⟩,rfl⟩
theorem abC {n:Nat} {cs:LV} {y:DataW H×List MemPlace} (hl:cs.length=3) (hc:DataW.trod enc prog W 0 (λ_=>true) true n 92 cs=some y): ∃x:aZ,cs=aP x/\fits x.n:=by
 have hf:=mD underlying92 kR hc kR hl;obtain⟨v0,_,_,JB,h0⟩:=hf 0 _ rfl;obtain⟨v1,_,_,Pq,h1⟩:=hf 1 _ rfl;obtain⟨v2,_,_,hv2,h2⟩:=hf 2 _ rfl;obtain⟨b,hb,_,_⟩:=DataW.trod_int underlying3 h0;obtain⟨m,hm,_,wm⟩:=DataW.trod_int underlying2 h1;obtain⟨s,hs,_⟩:=DataW.trod_string underlying9 h2;injection hb with hb _
 injection hm with hm _
 injection hs with hs _
 subst hb hm hs
 match cs,hl with
 | [c0,c1,c2],_=>
  simp at JB Pq hv2;subst JB Pq hv2;refine⟨⟨b,m,s.data.toList⟩,?_,Q5 rfl wm⟩;rw[Da];rfl
theorem aeS {n:Nat} {cs:LV} {y:DataW H×List MemPlace} (hl:cs.length=7) (hc:DataW.trod enc prog W 0 (λ_=>true) true n 54 cs=some y): ∃x:bF,cs=aX x:=by
 obtain⟨ys,n',_,_,_,hyl,hf⟩:=DataW.trod_struct underlying54 hc;have hy: ∀j,j<4->∃z,ys[j]? =some z:=λj hj=>⟨_,zaa (by rw[hyl];exact hj)⟩;obtain⟨z0,e0⟩:=hy 0 dC;obtain⟨z1,e1⟩:=hy 1 dC;obtain⟨z2,e2⟩:=hy 2 dC;obtain⟨z3,e3⟩:=hy 3 dC;have h0:DataW.trod enc prog W 0 (λ_=>true) true n' 3 ((cs.drop 0).take (prog.cellsOf 3))=some z0:=(hf 0 _ rfl).trans e0;have h1:DataW.trod enc prog W 0 (λ_=>true) true n' 9 ((cs.drop 1).take (prog.cellsOf 9))=some z1:=(hf 1 _ rfl).trans e1;have h2:DataW.trod enc prog W 0 (λ_=>true) true n' 50 ((cs.drop 2).take (prog.cellsOf 50))=some z2:=(hf 2 _ rfl).trans e2;have h3:DataW.trod enc prog W 0 (λ_=>true) true n' 52 ((cs.drop 4).take (prog.cellsOf 52))=some z3:=(hf 3 _ rfl).trans e3;have c0:prog.cellsOf 3=1:=kR;have c1:prog.cellsOf 9=1:=kR;have c2:prog.cellsOf 50=2:=kR;have c3:prog.cellsOf 52=3:=kR
 match cs,hl with
 | [a0,a1,a2,a3,a4,a5,a6],_=>
  rw[c0]at h0;rw[c1]at h1;rw[c2]at h2;rw[c3]at h3;obtain⟨i,hi,_,_⟩:=DataW.trod_int (cs:=[a0]) underlying3 h0;obtain⟨s,hs,_⟩:=DataW.trod_string (cs:=[a1]) underlying9 h1;obtain⟨t,ht⟩:=abB (cs:=[a2,a3]) rfl h2;obtain⟨c,ZK,_⟩:=OV (cs:=[a4,a5,a6]) rfl h3;refine⟨⟨i,s.data.toList,t,c⟩,?_⟩;have ha:[a0,a1,a2,a3,a4,a5,a6]=[a0]++[a1]++[a2,a3]++[a4,a5,a6]:=rfl;rw[ha,hi,hs,ht,ZK,Da];rfl
theorem zP {α:Type} {f:α->LV} {k c:Nat} {A:OA} {l:List α} (hc:l.length<=c) (hm:c<=maxLen) (h:gV W A l.length k (l.flatMap f)):aQ W (.slice A l.length c) f k l:=
 ⟨A,c,rfl,⟨hc,by unfold maxLen at hm;omega⟩,h⟩
theorem abD (hv:Value.okWide prog W r base 22 v) (h:DataW.Trod enc prog W 0 (λ_=>true) true 22 v d ps): ∃l:List bF,aQ W v aX 7 l:=by
 obtain⟨A,c,l,rfl,h1,h2,h3,h4⟩:=OU (f:=aX) (good:=λ_:bF=>True) (s:=7) underlying22 kR (λ_=>rfl) (λn cs y hl hc=>(aeS hl hc).imp λ_ h=>⟨h,trivial⟩) hv h;exact⟨l,zP h1 h2 h3⟩
end
end Go.Proofs.YtkfpleidaoaonaaGreatDoor
namespace Go.Mw
open Go.RowKit Go.ChangeShapes Go.WideShapes Go.Deep
section
variable {H:Type} {enc:Td×Value->H} {P:Program}
theorem yD {α:Type} {f:α->LV} {good:α->Prop} {s:Nat} {t e:Td} {W:Wd} {v:Value} {n0:Nat} {y:DataW H×List MemPlace} (ht:P.underlying t=some (.slice e)) (hC:P.cellsOf e=s) (hf: ∀x,(f x).length=s)
    (hel: ∀n cs y,cs.length=s->DataW.trod enc P W 0 (λ_=>true) true n e cs=some y->∃x,cs=f x/\good x) (h:DataW.trod enc P W 0 (λ_=>true) true n0 t [v]=some y):
    ∃A c,∃l:List α,v=.slice A l.length c/\l.length<=c/\c<=maxLen/\gV W A l.length s (l.flatMap f)/\∀x∈l,good x:=by
  rcases open_slice ht h with⟨h0,_⟩ | ⟨a,len,cap,m,n,D,Pl,hcs,_,hl,hm,hmm,_,hi⟩
  . injection h0 with h0 _
    exact⟨none,0,[],h0,zbk _,zaq _,gV.nil _ _ _,λ_ h=>by cases h⟩
  injection hcs with hcs _
  have Ey:m=cap:=by simpa using hmm
  subst Ey
  obtain⟨l,h1,h2⟩:=zM (α:=α) (Q:=λi x=>good x/\∀j u,(f x)[j]? =some u->W.cell? (a.add (i*s+j))=some u) len (λi Zx=>by
    obtain⟨cs',hc,ht'⟩:=hi i oM;rw[hC]at hc;obtain⟨_,Rq,hat⟩:=World.cells?_some hc;obtain⟨x,hx,hg⟩:=hel _ _ _ Rq ht';refine⟨x,hg,λj u hu=>?_⟩;have hj:j<s:=by rw[<-hf x];exact(zaz.1 hu).1
    have EB:=hat j hj;rw[<-Go.Deep.add_add,EB,hx];exact hu)
  subst h1;refine⟨some a,m,l,hcs,hl,hm,⟨zO hf l,λ_=>⟨a,rfl,λk u hk=>?_⟩⟩,λx hx=>?_⟩
  . obtain⟨i,j,x,Zx,hj,rfl⟩:=zN hf l k u hk
    exact(h2 i x Zx).2 j u hj
  obtain⟨i,Zx⟩:=List.mem_iff_getElem?.1 hx;exact(h2 i x Zx).1
end
end Go.Mw
namespace Go.Proofs.YtkfpleidaoaonaaGreatDoor
open Go Go.Mw Go.ChangeShapes Go.WideShapes Go.RowKit
set_option maxRecDepth 4000
section
variable {H:Type} {enc:Td×Value->H} {W:Wd} {r:Reach} {base:Nat} {v:Value} {d:DataW H} {ps:List MemPlace}
end
open Go.Lib
section
variable {w:Wd}
end
section
variable {w:Wd}
end
end Go.Proofs.YtkfpleidaoaonaaGreatDoor
namespace Go.Mw
open Go.RowKit
section
variable {P:Program} {ρ:Od->Value} {ty:Td} {w w0:Wd} {x y:Od} {α:Type} {enc:α->LV} {k:Nat} {l:List α} {A:OA}
end
end Go.Mw
namespace Go.Proofs.YtkfpleidaoaonaaGreatDoor
open Go Go.Mw Go.Lib
set_option maxRecDepth 4000
def abE (x:Int×Int):LV:=[I x.1,I x.2]
instance:jf abE 2:=⟨λ_=>rfl⟩
section
variable {w:Wd}
end
end Go.Proofs.YtkfpleidaoaonaaGreatDoor
namespace Go.Proofs.YtkfpleidaoaonaaGreatDoor
open Go Go.Mw Go.ChangeShapes Go.WideShapes Go.RowKit
set_option maxRecDepth 4000
section
variable {H:Type} {enc:Td×Value->H} {W:Wd} {r:Reach} {base:Nat} {v:Value} {d:DataW H} {ps:List MemPlace}
end
open Go.Proofs.Tryz
theorem Zg {W:Wd}: ∀r:List (L8×Value),(∀x∈r,∃l,aQ W x.2 aP 3 l/\bI l)->∃cols:List j4,nV W r cols/\∀o∈cols,bI o.steps
 | [],_=>⟨[],nV.nil,λo h=>zap h zao⟩
 | x::r,h=>by
  obtain⟨l,hl,hf⟩:=h x zae;obtain⟨cols,⟨h1,h2⟩,hc⟩:=Zg r λy hy=>h y (zag _ hy);refine⟨⟨x.1,l⟩::cols,⟨by rw[zay,zay,h1],λi y o hy ho=>?_⟩,λo ho=>?_⟩
  .cases i with
   | zero=>
    rw[zcc]at hy ho;injection hy with hy
    injection ho with ho
    subst hy ho;exact hl
   | succ i=>exact h2 i y o hy ho
  rcases zan.1 ho with e | e
  .subst e;exact hf
  exact hc o e
section
variable {H:Type} {enc:Td×Value->H} {W:Wd} {r:Reach} {base:Nat} {v:Value} {d:DataW H} {ps:List MemPlace}
theorem UW {n0:Nat} {y:DataW H×List MemPlace} (h:DataW.trod enc prog W 0 (λ_=>true) true n0 23 [v]=some y): ∃l:List aZ,aQ W v aP 3 l/\bI l:=by
 obtain⟨A,c,l,rfl,h2,h3,h4,h5⟩:=yD (f:=aP) (good:=λx:aZ=>fits x.n) (s:=3) underlying23 kR (λ_=>rfl) (λn cs y hl hc=>abC hl hc) h;exact⟨l,zP h2 h3 h4,h5⟩
theorem aeT {n:Nat} {cs:LV} {y:DataW H×List MemPlace} (hl:cs.length=2) (hc:DataW.trod enc prog W 0 (λ_=>true) true n 94 cs=some y): ∃x:L8×Value,cs=dU x/\∃l,aQ W x.2 aP 3 l/\bI l:=by
 have hf:=mD underlying94 kR hc kR hl;obtain⟨v0,_,_,JB,h0⟩:=hf 0 _ rfl;obtain⟨v1,_,_,Pq,h1⟩:=hf 1 _ rfl;obtain⟨s,hs,_⟩:=DataW.trod_string underlying9 h0;obtain⟨l,hr,JA⟩:=UW h1;injection hs with hs _
 subst hs
 match cs,hl with
 | [c0,c1],_=>
  simp only[zcc,zch,Option.some.injEq]at JB Pq;subst JB Pq;exact⟨(s.data.toList,c1),by rw[Da s];rfl,l,hr,JA⟩
theorem ahe {n0:Nat} {y:DataW H×List MemPlace} (h:DataW.trod enc prog W 0 (λ_=>true) true n0 24 [v]=some y): ∃l:List j4,EN W v l/\∀o∈l,bI o.steps:=by
 obtain⟨A,c,q,rfl,h2,h3,h4,h5⟩:=yD (f:=dU) (good:=λx:L8×Value=>∃l,aQ W x.2 aP 3 l/\bI l) (s:=2) underlying24 kR (λ_=>rfl) (λn cs y hl hc=>aeT hl hc) h;obtain⟨cols,hr,hf⟩:=Zg q h5;exact⟨cols,⟨q,zP h2 h3 h4,hr⟩,hf⟩
theorem abF (hv:Value.okWide prog W r base 26 v) (h:DataW.Trod enc prog W 0 (λ_=>true) true 26 v d ps): ∃p:aW,ji W v p/\tN p:=by
 obtain⟨cs,rfl,hsz⟩:=okWide_struct underlying26 hv;have hc:prog.cellsOf 26=3:=kR;rw[hc]at hsz;obtain⟨fuel,hfu⟩:=h;obtain⟨l⟩:=cs
 match l,hsz with
 | [a,b,c],_=>
  have hf:=mD underlying26 kR hfu kR rfl;obtain⟨v0,_,_,JB,h0⟩:=hf 0 _ rfl;obtain⟨v1,_,_,Pq,h1⟩:=hf 1 _ rfl;obtain⟨v2,_,_,hv2,h2⟩:=hf 2 _ rfl;have e0:some a=some v0:=JB;have e1:some b=some v1:=Pq;have e2:some c=some v2:=hv2;injection e0 with e0
  injection e1 with e1
  injection e2 with e2
  subst e0 e1 e2;obtain⟨wh,hw,hwf⟩:=UW h0;obtain⟨cols,ho,hof⟩:=ahe h1;obtain⟨g,hg,_,_⟩:=DataW.trod_int underlying3 h2;injection hg with hg _
  subst hg;exact⟨⟨wh,cols,g⟩,⟨a,b,rfl,hw,ho⟩,hwf,hof⟩
end
theorem UY {W:Wd}: ∀r:List (Value×Int),(∀x∈r,(∃l,aQ W x.1 ah 3 l/\jI l)/\fits x.2)->∃l:List aH,fK W r l/\∀o∈l,eG o
 | [],_=>⟨[],⟨rfl,λi x o h=>by cases h⟩,λo h=>zap h zao⟩
 | x::r,h=>by
  obtain⟨⟨l,hl,hf⟩,hw⟩:=h x zae;obtain⟨q,⟨h1,h2⟩,hc⟩:=UY r λy hy=>h y (zag _ hy);refine⟨⟨l,x.2⟩::q,⟨by rw[zay,zay,h1],λi y o hy ho=>?_⟩,λo ho=>?_⟩
  .cases i with
   | zero=>
    rw[zcc]at hy ho;injection hy with hy
    injection ho with ho
    subst hy ho;exact hl
   | succ i=>exact h2 i y o hy ho
  rcases zan.1 ho with e | e
  .subst e;exact⟨hw,hf⟩
  exact hc o e
section
variable {H:Type} {enc:Td×Value->H} {W:Wd} {r:Reach} {base:Nat} {v:Value} {d:DataW H} {ps:List MemPlace}
theorem aeU {n0:Nat} {y:DataW H×List MemPlace} (h:DataW.trod enc prog W 0 (λ_=>true) true n0 80 [v]=some y): ∃l:List ay,aQ W v ah 3 l/\jI l:=by
 obtain⟨A,c,l,rfl,h2,h3,h4,h5⟩:=yD (f:=ah) (good:=λx:ay=>fits x.n) (s:=3) underlying80 kR (λ_=>rfl) (λn cs y hl hc=>OV hl hc) h;exact⟨l,zP h2 h3 h4,h5⟩
theorem abG {n:Nat} {cs:LV} {y:DataW H×List MemPlace} (hl:cs.length=2) (hc:DataW.trod enc prog W 0 (λ_=>true) true n 82 cs=some y): ∃x:Value×Int,cs=aG x/\(∃l,aQ W x.1 ah 3 l/\jI l)/\fits x.2:=by
 have hf:=mD underlying82 kR hc kR hl;obtain⟨v0,_,_,JB,h0⟩:=hf 0 _ rfl;obtain⟨v1,_,_,Pq,h1⟩:=hf 1 _ rfl;obtain⟨l,hr,JA⟩:=aeU h0;obtain⟨m,hm,_,wm⟩:=DataW.trod_int underlying2 h1;injection hm with hm _
 subst hm
 match cs,hl with
 | [c0,c1],_=>
  simp only[zcc,zch,Option.some.injEq]at JB Pq;subst JB Pq;exact⟨(c0,m),rfl,⟨l,hr,JA⟩,Q5 rfl wm⟩
theorem XU (hv:Value.okWide prog W r base 27 v) (h:DataW.Trod enc prog W 0 (λ_=>true) true 27 v d ps): ∃l:List aH,eT W v l/\∀x∈l,eG x:=by
 obtain⟨A,c,q,rfl,h2,h3,h4,h5⟩:=OU (f:=aG) (good:=λx:Value×Int=>(∃l,aQ W x.1 ah 3 l/\jI l)/\fits x.2) (s:=2) underlying27 kR (λ_=>rfl) (λn cs y hl hc=>abG hl hc) hv h;obtain⟨l,hr,hf⟩:=UY q h5;exact⟨l,⟨q,zP h2 h3 h4,hr⟩,hf⟩
end
def XV (P:Program) (fn:Func) (s:ChangeSpec) (c:OpenClaim):Bool:=
 c.wf (OpenSpec.ofChange s)&&laidOutB P&&mapsRowed P&&
 fn.params.all (P.readableRec ·)&&namedTie P c.named s.vars&&
 (c.stops==[])&&(P.stops==[])&&(c.knobs==[])&&(P.stopKnobs==[])
def XW (P:Program) (fn:Func) (s:ChangeSpec) (c:OpenClaim):Bool:=
 (c.maps==(fn.params.toList++s.plain.varTypes P).any (P.mapsRec ·))&&(c.ifaces==(fn.params.toList++s.plain.varTypes P).any (P.ifacesRec ·))&&(c.mapsOut==P.mapsAmong fn.resultTypes.toList)&&
 (c.loops==(fn.params.toList++s.plain.varTypes P).any (P.loopsFrom ·))&&(c.wideKeys==(fn.params.toList++s.plain.varTypes P++fn.resultTypes.toList).any (P.wideKeysFrom ·))&&
 s.vars.all (P.varReadable ·)&&fn.resultTypes.all (λt=>P.readableRec t&&decide (t<P.types.size))&&(c.ifacesOut==fn.resultTypes.toList.any (P.ifacesRec ·))&&(c.loopsOut==fn.resultTypes.toList.any (P.loopsFrom ·))&&(c.plainKeys==P.plainKeys)&&c.shortTexts.isNone
def XY (P:Program) (fn:Func) (s:ChangeSpec) (c:OpenClaim):Bool:=
 P.stopsHeard&&P.mayEnter&&(c.lifted==P.liftsFinal)&&(P.make==some c.make)&&(c.kinds==(if c.domain.isEmpty then []else fn.params.toList.map λt=>match P.underlying t with | some (.int k)=>some k | _=>none))&&(c.pinned==c.pinnedBy)&&
 (c.veiled==(fn.params.toList++s.plain.varTypes P++fn.resultTypes.toList).any (P.veiledRec ·))&&c.veiledFits P fn.params.toList (fn.params.toList++s.plain.varTypes P++fn.resultTypes.toList)
theorem abH {P:Program} {f:FuncId} {fn:Func} {s:ChangeSpec} {c:OpenClaim} (h4:(c.inPlace==P.inPlace f)=true) (h5:(c.unfollowed==P.unfollowed f)=true) (h6:(c.recurses==P.recurses f)=true) (h7:(c.named==P.varsNamed f)=true) (h1:XV P fn s c=true) (h2:XW P fn s c=true) (h3:XY P fn s c=true):joinedFacts P f fn s c=true:=by
 simp only[XV,zbr]at h1;simp only[XW,zbr]at h2;simp only[XY,zbr]at h3;simp only[joinedFacts,zbr];simp only[h1,h2,h3,h4,h5,h6,h7,and_self,and_true,true_and];exact h3.1.1.1.2
end Go.Proofs.YtkfpleidaoaonaaGreatDoor
