/-
 The program's named,Check,Uses and Same of a plan,walked.
-/
import Derived.Test.YtkfpleidaoaonaaGreatDoorNu1
import Derived.Test.YtkfpleidaoaonaaGreatDoorNu3
import Derived.Test.YtkfpleidaoaonaaGreatDoorNu18
import Derived.Test.YtkfpleidaoaonaaGreatDoorNu9
import Derived.Test.YtkfpleidaoaonaaGreatDoorNu13
import Derived.Test.YtkfpleidaoaonaaGreatDoorNu5
import Derived.Test.YtkfpleidaoaonaaGreatDoorNu12
import Derived.Test.YtkfpleidaoaonaaGreatDoorNu7
set_option linter.unusedVariables false
set_option linter.unusedSimpArgs false
namespace Go.Proofs.YtkfpleidaoaonaaGreatDoor
open Go Go.Mw Go.Lib Tryz
set_option maxRecDepth 4000
attribute [local irreducible] FW FL FG FGn gu gy dh gH Qfn Gives
def Md (b:Nat) (l:List bL):HP:=exH λv=>star (blk b [v] 22) (bW 54 7 aR v l)
instance ak6:IsIface prog 183:=⟨kR⟩
section
variable {w:Wd}
theorem agG (t:dJ):aN prog 81 [agg (bD t)] w λv w'=>v=agg (aj (acg t))/\Kept noB w w':=by
 have H:=Sep.aL w;refine sI func81 rfl rfl rfl rfl ?_;refine Sr (dz H (h:=λb1 w2 H2 k1=>?_));refine aW H2 (h:=λb3 w4 H4 k3=>?_);refine Zb1 ?_;refine aF H4 (Ce t) (h:=λw7 H7 k6=>?_);refine Mv ?_;refine aC (t:=5) rfl (λZt=>?_) (λZt=>?_)
 .have hmt:qK t=true:=zbe Zt
  refine Zb3 ?_;refine Vb (aj ⟨t.null,0,[]⟩) ?_;refine au H7 (h:=λwa Ha=>?_);refine Qn (fu (aX (h:=?_)));exact⟨_,⟨_,_,_,rfl,rfl,tV (cs:=aj ⟨t.null,0,[]⟩) (o:=0) (k:=3) (Ha.obj At0) (us:=aj ⟨t.null,0,[]⟩) rfl rfl,rfl⟩,by unfold acg;rw[hmt];rfl,Ha.kept⟩
 have hmt:qK t=false:=zar Zt;refine Zb1 ?_;refine Vb (aj ⟨false,0,[]⟩) ?_;refine au H7 (h:=λwb Hb=>?_);refine Qn (fu (aX (h:=?_)));exact⟨_,⟨_,_,_,rfl,rfl,tV (cs:=aj ⟨false,0,[]⟩) (o:=0) (k:=3) (Hb.obj At0) (us:=aj ⟨false,0,[]⟩) rfl rfl,rfl⟩,by unfold acg;rw[hmt];rfl,Hb.kept⟩
theorem Al {b:Nat} {F:NP} {acc:List bL} (name:L8) (t:dJ) (hp:(Md b acc).ok F w) (hl:acc.length<=1000):
    aN prog 80 [str name,agg (bD t),aA b] w λv w'=>v=.tuple #[]/\Turn F (Md b (acc++[Kw ((acc.length+1:Nat):Int) name t])) w w':=by
  have H0:=Sep.dZ hp;unfold Md at H0;obtain⟨v0,H0⟩:=H0.ex0;have H:=H0.dG;obtain⟨A,ca,rfl,hca,hA⟩:=Sep.eO H At1;refine tH func80 rfl rfl rfl rfl ?_;refine Sr (dz H (cs:=bD t) rfl (h:=λb4 w2 H2 k1=>?_));refine Qn (Ds (λRf w5 H5=>?_));refine Zb3 ?_;refine Gc Rf 3 ((acc.length+1:Nat):Int) ?_;refine Zb3 ?_;refine iZ Rf 7 [(5,false),(4,true),(3,true),(2,true),(1,false),(0,false)] H5 (agG t) (h:=λwa Ha ka=>⟨(dN rfl kR (Gives.NM rfl (Ha.obj At0) (us:=bD t) rfl rfl) rfl (ah (ah (ah (aY Ha (h:=aY Ha (h:=aK))))))),?_⟩);refine Gp Rf 8 rfl rfl (λ_=>Gives.build (out:=aR (Kw ((acc.length+1:Nat):Int) name t)) (Fills.one rfl rfl rfl sM rfl (Fills.one rfl rfl rfl sM rfl (Fills.many rfl rfl (zbc rfl) rfl (Fills.many rfl rfl (zbc rfl) rfl Fills.nil))))) (bU Rf 9 [(0,false)] Ha (xs:=[.tmp 13]) (out:=[Kw ((acc.length+1:Nat):Int) name t].flatMap aR) (bE.many rfl rfl bE.nil) (h:=λbs wb Hb=>⟨aY Hb (h:=aK),?_⟩));refine jN Rf 10 _ Hb (news:=[Kw ((acc.length+1:Nat):Int) name t]) At2 (by unfold maxLen;simp;omega) (by simp;omega) (cells_one (λ_=>rfl) _) (h:=λv2 wc Hc=>?_);obtain⟨A2,c2,rfl,hc2,hA2⟩:=Sep.eO Hc At2;refine⟨sT,?_⟩;refine qd Rf 11 _ Hc (h:=λwd Hd=>⟨sT,?_⟩);refine Zb0 ?_;exact⟨rfl,(Sep.uW (p:=λv=>star (blk b [v] 22) (bW 54 7 aR v _)) _ (Sep.bI Hd.eF)).first.turn⟩
theorem XI {p:aZ} {v:Value} (hp:eG w v p) (hn:p.cols.length<=1000000):aN prog 78 [v] w λv w'=>v=.bool (zM p)/\Kept noB w w':=by
 obtain⟨vw,vc,rfl,hw,r,hr,gW⟩:=hp;obtain⟨A,m,rfl,⟨hm,qo⟩,hA⟩:=hr;have xk:=gW.len;have H:=Sep.aL w;obtain⟨res,ay⟩: ∃res,res=zM p:=⟨_,rfl⟩;rw[<-ay];unfold zM at ay;refine eP func78 rfl rfl rfl rfl ?_;refine Sr (dz H (cs:=[vw,.slice A r.length m,I p.group]) rfl (h:=λb1 w2 H2 k1=>?_));refine Zb1 ?_;refine yA H2 (h:=λb3 w5 H5 k4=>?_);have H5:=Sep.ajo H5 At0;refine Zb5 ?_;refine aP (λi:Nat=>[(1,aA b1),(3,.map (some b3)),(9,.slice A r.length m),(10,I r.length),(11,I i)]) (λi w'=>(i<=r.length/\∀(j:Nat) o,j<i->p.cols[j]? =some o->jE o.name=true/\¬(0<=p.group/\o.name=qB))/\∃f n,Had ((p.cols.map (·.name)).take i) f n/\Sep w noB [Da b3 f n,blk b1 [vw,.slice A r.length m,I p.group] 26] w') (λi _=>r.length-i) 0 tR ⟨⟨zak _,λj o hj=>zat hj (zen j)⟩,_,_,Had.nil,H5⟩ (λi τ wa hI=>?_);obtain⟨⟨hi,tq⟩,f,n,amT,Ha⟩:=hI
 try simp only[dA,like,bB,bY]
 refine Za1 ?_;refine Qn (fC (Cp rfl (λIa=>?_) (λIa=>?_)))
 .have bX:i<p.cols.length:=oM
  obtain⟨x,hx,Cq⟩:=gW.at bX;obtain⟨Ax,cx,rfl,_⟩:=id Cq;have rY:p.cols[i]? =some p.cols[i]:=zaa bX;obtain⟨o,ho⟩: ∃o,o=p.cols[i]:=⟨_,rfl⟩;rw[<-ho]at hx Cq rY;have ZN:(p.cols.map (·.name)).take (i+1)=(p.cols.map (·.name)).take i++[o.name]:=by rw[zav,zcf,rY];rfl
  have vO:o∈p.cols:=zao rY;refine Zb2 ?_;refine aW Ha (h:=λb5 wb Hb ka=>?_);refine au Hb (h:=λwc Hc=>?_);refine Zb3 ?_;obtain⟨c,V8,hcv⟩:=amT.val ⟨o.name.toArray⟩;rw[zag,zae]at V8;refine dU (QD (i:=⟨o.name.toArray⟩) Hc At1 rfl rfl) rfl ?_;rw[hcv];refine Vc ((c+1:Nat):Int) ?_;have aiQ:=amT.push o.name (c:=c) (by rw[zag,zae];omega);rw[<-ZN]at aiQ;refine QL Hc At1 rfl rfl rfl (h:=λwd Hd=>?_);refine Zb2 ?_;refine aF Hd (RO o.name) (h:=λwe He kb=>?_);refine Zb2 ?_;refine iN (t:=24) rfl (λSa=>?_) (λSa=>?_)
  .have sN: ¬jE o.name=true:=by simpa using Sa
   refine Zb2 ?_;refine⟨?_,He.kept⟩
   have qR:p.cols.all (λo=>jE o.name&& !(decide (0<=p.group)&&decide (o.name=qB)))=false:=by
    rw[<-zdm,zaz];intro h;have h1:=h o vO;simp_all
   rw[ay,qR];simp[fH]
  have Un:jE o.name=true:=by simpa using Sa
  refine Zb4 ?_;refine aC (t:=28) rfl (λSb=>?_) (λSb=>?_)
  .refine Za5 ?_
   refine Qn (Cp rfl (λIb=>?_) (λIb=>?_))
   .have aty:0<=p.group/\o.name=qB:=⟨oM,Ib⟩
    refine Zb1 ?_;refine⟨?_,He.kept⟩
    have qR:p.cols.all (λo=>jE o.name&& !(decide (0<=p.group)&&decide (o.name=qB)))=false:=by
     rw[<-zdm,zaz];intro h;have h1:=h o vO;simp_all
    rw[ay,qR];simp[fH]
   have Eh: ¬(0<=p.group/\o.name=qB):=λh=>Ib h.2;refine Zb2 ?_;exact ak (i+1) tR ⟨⟨oM,λj y hj hy=>by
   by_cases e:j=i
   .subst e;rw[rY]at hy;injection hy with hy;rw[<-hy];exact⟨Un,Eh⟩
   exact tq j y oM hy⟩,_,_,aiQ,He.eF⟩ oM
  have Eh: ¬(0<=p.group/\o.name=qB):=λh=>oM;refine Zb4 ?_;exact ak (i+1) tR ⟨⟨oM,λj y hj hy=>by
  by_cases e:j=i
  .subst e;rw[rY]at hy;injection hy with hy;rw[<-hy];exact⟨Un,Eh⟩
  exact tq j y oM hy⟩,_,_,aiQ,He.eF⟩ oM
 have qp:i=r.length:=oM
 have lQ:p.cols.all (λo=>jE o.name&& !(decide (0<=p.group)&&decide (o.name=qB)))=true:=by
  rw[zaz];intro o ho;obtain⟨j,hj⟩:=zdh ho;obtain⟨h1,h2⟩:=tq j o (by have:=jk hj;omega) hj;rw[h1,zdy];cases hg:decide (0<=p.group)<;>cases hc:decide (o.name=qB)<;>simp_all
 rw[lQ]at ay;have hnd:=amT.nd;rw[qp,xk,zaf sM]at hnd;rw[zae]at hnd;have hnr:(n=r.length↔(p.cols.map (·.name)).Nodup):=by rw[xk];exact hnd
 have ay:res=decide ((n:Int)=r.length/\1<=r.length/\r.length<=16/\ -1<=p.group/\p.group<=r.length):=by
  rw[ay,Bool.and_true,<-Bool.decide_and,xk];refine zbj.2 ⟨λh=>?_,λh=>?_⟩
  .have:=hnr.2 h.2
   omega
  exact⟨oM,hnr.1 oM⟩
 refine Zb5 ?_;refine dU (QK Ha At0 rfl) rfl ?_;refine Zb3 ?_;refine aC (t:=42) rfl (λSc=>?_) (λSc=>?_)
 .refine Zb4 ?_
  refine aC (t:=46) rfl (λSd=>?_) (λSd=>?_)
  .refine Zb4 ?_
   refine aC (t:=50) rfl (λSe=>?_) (λSe=>?_)
   .refine Zb5 ?_
    refine aC (t:=55) rfl (λSf=>?_) (λSf=>?_)
    .refine Zb6 ?_
     exact⟨by rw[ay];first | exact zaw Value.bool (Eq.symm (zar oM)) | exact zaw Value.bool (zbj.2 oM),Ha.kept⟩
    refine Zb2 ?_;exact⟨by rw[ay];first | exact zaw Value.bool (Eq.symm (zar oM)) | exact zaw Value.bool (zbj.2 oM),Ha.kept⟩
   refine Zb4 ?_;exact⟨by rw[ay];first | exact zaw Value.bool (Eq.symm (zar oM)) | exact zaw Value.bool (zbj.2 oM),Ha.kept⟩
  refine Zb6 ?_;exact⟨by rw[ay];first | exact zaw Value.bool (Eq.symm (zar oM)) | exact zaw Value.bool (zbj.2 oM),Ha.kept⟩
 refine Zb8 ?_;exact⟨by rw[ay];first | exact zaw Value.bool (Eq.symm (zar oM)) | exact zaw Value.bool (zbj.2 oM),Ha.kept⟩
end

theorem JC: ∀l:List (L8),xA l=lg 10 (l++[[]])
 | []=>rfl
 | [w]=>by simp[xA,lg]
 | w::x::l=>by
  have ih:=JC (x::l);unfold xA at ih ⊢;rw[zbg,ih];show w++[10]++_=w++10::lg 10 (x::l++[[]])
  simp
theorem QM {ls:List (L8)} (h: ∀w∈ls,∀c∈w,c≠10):lJ (xA ls)=(ls,true):=by
 have hs:d9 10 (xA ls)=ls++[[]]:=by
  rw[JC];refine GN sM λw hw=>?_
  rcases zbh.1 hw with h1 | h1
  .exact h w h1
  rw[zay.1 h1];intro c hc;cases hc
 unfold lJ;rw[hs,zac sM];simp
theorem KP (s:L8):d9 10 s≠[]:=λe=>by
 have:=GQ 10 s;cases s with
 | nil=>cases e
 | cons c l=>rw[e]at this;cases this
/-! Lines bear no line feed. -/
theorem Oy (n:Int): ∀c∈itoa n,c≠10:=by
 intro c hc e;subst e
 have key: ∀u,(10:UInt8)∉decDigits u:=λu h=>by
  have:=rQ u _ h;simp[yO]at this
 unfold itoa at hc
 split at hc
 .rcases zap.1 hc with h | h
  .exact zat h dC
  exact key _ h
 exact key _ hc
theorem RP {d:Nat} (h:d<16):pK d≠10:=by
 have key: ∀d:Fin 16,pK d.val≠10:=dC;exact key ⟨d,h⟩
theorem aas (c:UInt8): ∀x∈jP c,x≠10:=by
 have key: ∀i:Fin 256,∀x∈jP (UInt8.ofNat i.val),x≠10:=by decide+kernel
 have:=key ⟨c.toNat,c.toNat_lt⟩;simpa using this
theorem agH {x:bJ} (h:jM x=true): ∀c∈iY x,c≠10:=by
 obtain⟨k,n,s⟩:=x;unfold jM at h;unfold iY;dsimp only at h |-
 by_cases k1:k=1
 .rw[zac k1]
  intro c hc
  rcases zap.1 hc with rfl | hc
  .decide
  exact Oy n c hc
 rw[zab k1]at h |-
 by_cases k2:k=2
 .rw[zac k2];exact Oy n
 rw[zab k2]at h |-
 by_cases k3:k=3
 .rw[zac k3]
  split<;>decide
 rw[zab k3]at h |-
 by_cases k4:k=4
 .rw[zac k4,DU]
  intro c hc
  rcases zap.1 hc with rfl | hc
  .decide
  rcases zbh.1 hc with hc | hc
  .obtain⟨y,_,hy⟩:=zda.1 hc
   exact aas y c hy
  simp only[zay]at hc;subst hc;decide
 rw[zab k4]at h |-
 by_cases k5:k=5
 .rw[zac k5]
  intro c hc
  rcases zap.1 hc with rfl | hc
  .decide
  obtain⟨y,_,hy⟩:=zda.1 hc;simp only[zap,zaj,or_false]at hy
  rcases hy with rfl | rfl
  .exact RP (by have:=y.toNat_lt;omega)
  exact RP oM
 rw[zab k5]at h |-
 by_cases k6:k=6
 .subst k6
  rw[zac rfl]at h ⊢;simp only[decide_eq_true_eq]at h;obtain⟨_,hn⟩:=h;have :n=1\/n=3\/n=4\/n=5:=by omega
  rcases this with rfl | rfl | rfl | rfl<;>decide
 rw[zab k6]at h ⊢;simp only[decide_eq_true_eq]at h;obtain⟨ha,hb,_,_⟩:=h;have :k=7\/k=8\/k=9\/k=10\/k=11\/k=12\/k=13\/k=14\/k=15\/k=16\/k=17\/k=18:=by omega
 rcases this with rfl | rfl | rfl | rfl | rfl | rfl | rfl | rfl | rfl | rfl | rfl | rfl<;>decide
theorem XJ: ∀{ws:List (L8)},(∀w∈ws,∀c∈w,c≠10)->∀c∈lg 32 ws,c≠10
 | [],_=>by intro c hc;cases hc
 | [w],h=>h w zah
 | w::x::l,h=>by
  intro c hc;have hc:c∈w++32::lg 32 (x::l):=hc
  rcases zbh.1 hc with h1 | h1
  .exact h w zah c h1
  rcases zap.1 h1 with rfl | h1
  .decide
  exact XJ (λy hy=>h y (zai _ hy)) c h1
def bK (l:List bJ):Prop:=∀x∈l,fits x.n
theorem Oz {l:List bJ} (h:(jR l).2=0):l.length<=64/\(∀x∈l,jM x=true)/\jR l=(lg 32 (l.map iY),0):=by
 unfold jR at h |-
 split at h
 .cases h
 rename_i h1
 split at h
 .cases h
 rename_i h2;rw[zab h1,zab h2];rw[Bool.not_eq_false,zaz]at h2;exact⟨oM,h2,rfl⟩
theorem XK {l:List bJ} (h:(jR l).2=0): ∀c∈(jR l).1,c≠10:=by
 obtain⟨_,h2,h3⟩:=Oz h;rw[h3]
 exact XJ λw hw=>by
  obtain⟨x,hx,rfl⟩:=zaq.1 hw;exact agH (h2 x hx)
theorem RQ {l:List bJ} (h:(jR l).2=0) (hf:bK l):fQ (jR l).1=(l,0):=by
 obtain⟨h1,h2,h3⟩:=Oz h;rw[h3];exact(Ph (λx hx=>⟨h2 x hx,hf x hx⟩) h1).2.1
theorem XL {s:L8} (h:jE s=true):(∀c∈s,c≠10)/\(∀c∈s,c≠32):=by
 unfold jE at h;simp only[zbv,zaz]at h;have key: ∀i:Fin 256,zi (UInt8.ofNat i.val)=true->UInt8.ofNat i.val≠10/\UInt8.ofNat i.val≠32:=by decide+kernel
 have k2: ∀c:UInt8,zi c=true->c≠10/\c≠32:=λc hc=>by
  have:=key ⟨c.toNat,c.toNat_lt⟩;simp only[UInt8.ofNat_toNat]at this;exact this hc
 exact⟨λc hc=>(k2 c (h.2 c hc)).1,λc hc=>(k2 c (h.2 c hc)).2⟩
theorem Bz (b t:L8):yg b (b++t)=some t:=by
 unfold yg;rw[List.take_left',zac rfl,List.drop_left']
 .rfl
 rfl
theorem XM {b s t:L8} (h:yg b s=some t):s=b++t:=by
 unfold yg at h
 split at h
 .rename_i h1
  injection h with h
  rw[<-h]
  conv=>lhs;rw[<-zbx b.length s,h1]
 cases h
theorem aat:(fQ oJ).2=4:=by rw[<-Ru];decide+kernel
theorem aau {l:List bJ} (h:(jR l).2=0) (hf:bK l):Ky (zk l)=some l:=by
 unfold Ky zk;rw[Bz,zdr]
 by_cases h0:l=[]
 .rw[zac h0,zab dC,zac rfl,h0]
 rw[zab h0];have hb:=RQ h hf
 have h1:(jR l).1≠[]:=λe=>by
  rw[e]at hb;have :fQ []=([],0):=rfl;rw[this]at hb;injection hb with hb
  exact h0 hb.symm
 have h2:(jR l).1≠oJ:=λe=>by
  rw[e]at hb;have:=aat;rw[hb]at this;cases this
 rw[zab h1,zab h2,hb,zac rfl]
theorem XO {s t:L8} (h: ∀c∈s,c≠32):Bu (s++[32]++t)=some (s,t):=by
 have hi:(s++[32]++t).idxOf? 32=some s.length:=by
  rw[List.idxOf?,zbs,List.findIdx?_append]
  have :s.findIdx? (· ==32)=none:=by
   rw[zed];intro c hc;simpa using h c hc
  rw[this];simp[zgg]
 unfold Bu;rw[hi,zdf,zbs]
 congr 2
 .rw[List.take_left'];rfl
 rw[<-zbs];exact List.drop_left' sM
theorem agI {o:jL} (hb:Oa o=false) (hn:jE o.name=true) (hf:bK o.steps):Ob (vY o)=some o:=by
 have hbb: ¬((jR o.steps).2≠0\/(jR o.steps).1=[]):=of_decide_eq_false hb;have h0:(jR o.steps).2=0:=Classical.byContradiction λh=>hbb (.inl h);have h1:(jR o.steps).1≠[]:=λh=>hbb (.inr h);have hp:=RQ h0 hf
 have hs:o.steps≠[]:=λe=>by
  rw[e]at h1;exact h1 rfl
 unfold Ob vY;have e:aai++o.name++[32]++(jR o.steps).1=aai++(o.name++[32]++(jR o.steps).1):=by simp only[zbs]
 rw[e,Bz,zdr,XO (XL hn).2,zdr];dsimp only;rw[hp,zac ⟨rfl,hs,hn⟩]
theorem aav {g:Int} (h1: -1<=g) (h2:g<=1048576):zN (Ad g)=some g:=by
 unfold zN Ad;rw[Bz,zdr]
 by_cases hg:g<0
 .rw[zac hg,zac rfl]
  congr 1
  omega
 rw[zab hg];obtain⟨n,rfl⟩:=zfa (show 0<=g from oM);have hit:itoa (n:Int)=decDigits n:=by unfold itoa;rw[zab hg];rfl
 have iF:itoa (n:Int)≠oJ:=λe=>by
  rw[hit]at e;have:=rQ n 110 (by rw[e];decide);exact zat this dC
 rw[zab iF,hit];unfold sj;rw[zA,zdr,zac ⟨rfl,oM⟩];rfl
theorem aaw {t:L8} (h:(fQ t).2=0) (h0:t≠[]):(fQ t).1≠[]:=λe=>by
 have ht:=abh (s:=t) (l:=(fQ t).1) (by rw[<-h]);rw[e]at ht;injection ht with ht
 exact h0 ht.symm
theorem RS: ∀{cs:List jL} {g:Int},(∀o∈cs,Oa o=false/\jE o.name=true/\bK o.steps)->nH (cs.map vY++[Ad g])=cs
 | [],g,_=>by
  have :Ob (Ad g)=none:=by
   unfold Ob yg;rw[zab]
   .rfl
   unfold Ad N9 aai;simp
  show nH [Ad g]=[]
  unfold nH;rw[this]
 | o::cs,g,h=>by
  obtain⟨h1,h2,h3⟩:=h o zah;rw[zax,zcc];unfold nH;rw[agI h1 h2 h3];dsimp only;rw[RS λx hx=>h x (zai _ hx)]
theorem yw {p:aZ} (h:zM p=true):(1<=p.cols.length/\p.cols.length<=16/\ -1<=p.group/\p.group<=p.cols.length)/\∀o∈p.cols,jE o.name=true:=by
 unfold zM at h;simp only[zbv,zaz,decide_eq_true_eq]at h;exact⟨h.1.1,λo ho=>(h.1.2 o ho).1⟩
theorem uN {p:aZ}:Fj p=true↔zM p=true/\(jR p.wh).2=0/\∀o∈p.cols,Oa o=false:=by
 unfold Fj;simp only[zbv,zaz,decide_eq_true_eq,zdn,and_assoc]
theorem adR {p:aZ} (h:Fj p=true): ∀w∈nV p,∀c∈w,c≠10:=by
 obtain⟨h1,h2,h3⟩:=uN.1 h;have hn:=(yw h1).2;have key: ∀{a b:L8},(∀c∈a,c≠10)->(∀c∈b,c≠10)->∀c∈a++b,c≠10:=λha hb c hc=>(zbh.1 hc).elim (ha c) (hb c);intro w hw;unfold nV at hw
 rcases zap.1 hw with rfl | hw
 .unfold zk
  refine key dC ?_
  split
  .decide
  exact XK h2
 rcases zbh.1 hw with hw | hw
 .obtain⟨o,ho,rfl⟩:=zaq.1 hw
  have hb: ¬((jR o.steps).2≠0\/(jR o.steps).1=[]):=of_decide_eq_false (h3 o ho);unfold vY;exact key (key (key dC (XL (hn o ho)).1) dC) (XK (Classical.byContradiction λh=>hb (.inl h)))
 rw[zay.1 hw];unfold Ad;refine key dC ?_
 split
 .decide
 exact Oy _
theorem adS {p:aZ} (h:Fj p=true) (hw:bK p.wh) (hc: ∀o∈p.cols,bK o.steps) (hl:(xA (nV p)).length<=1048576):tK (xA (nV p))=(p,0,0):=by
 obtain⟨h1,h2,h3⟩:=uN.1 h;obtain⟨⟨n1,n2,n3,n4⟩,hn⟩:=yw h1;have hlen:(nV p).length=p.cols.length+2:=by unfold nV;simp
 have hcs:nH (((nV p).take (nV p).length).drop 1)=p.cols:=by
  rw[zbl];exact RS λo ho=>⟨h3 o ho,hn o ho,hc o ho⟩
 have hg:(nV p).getD (1+p.cols.length) []=Ad p.group:=by
  unfold nV;rw[zau,zgj,zby,zcb sM];simp
 unfold tK;rw[zab oM,QM (adR h)];dsimp only;rw[zac rfl,zab oM];have Zw:(nV p).getD 0 []=zk p.wh:=rfl;rw[Zw,aau h2 hw];dsimp only;rw[hcs,zab oM,hg,aav n3 oM];dsimp only;rw[zab oM,zab (by show ¬Fj p=false;rw[h];decide)]
theorem Me (sep:UInt8): ∀s:L8,(d9 sep s).length=s.count sep+1
 | []=>rfl
 | c::l=>by
  have ih:=Me sep l;unfold d9
  split
  .rename_i h;subst h;simp[ih]
  rename_i h
  split
  .rename_i w ws hw
   rw[hw]at ih;rw[List.count_cons_of_ne (by simpa using h)];simpa using ih
  rename_i hw;rw[hw]at ih;simp at ih
def BA (g:Int) (i:Nat):Nat:=if 0<=g/\g<i then 1 else 0
theorem adT {α:Type} {l:List α} {i:Nat} {o:α} (h:l[i]? =some o):l.drop i=o::l.drop (i+1):=by
 have bX:=jk h;rw[zbq bX];rw[zaa bX]at h;injection h with h
 rw[h]
section
variable {w:Wd}
theorem adU {cols:List bL} {p:aZ} {vc vp:Value} (hc:aM w vc aR 7 cols) (hp:eG w vp p) (MU:bK p.wh) (Jh: ∀o∈p.cols,bK o.steps) (hn:p.cols.length<=1000000) (hT:fA w):
    aN Tryz.prog 45 [vc,vp] w λv w'=>∃x,v=.tuple #[x,I (bQ cols p).2]/\True/\Turn noB (bW 54 7 aR x (bQ cols p).1) w w':=by
  have fZ:=hp;obtain⟨vw,vq,rfl,hw,r,hr,gW⟩:=hp;obtain⟨A,m,rfl,⟨hm,qo⟩,hA⟩:=hr;have xk:=gW.len;have H:=Sep.aL w;obtain⟨res,ay⟩: ∃res,res=bQ cols p:=⟨_,rfl⟩;rw[<-ay];unfold bQ at ay;obtain⟨C,n,rfl,⟨hwn,arX⟩,hC⟩:=id hw;refine dS Tryz.func45 rfl rfl rfl rfl ?_;refine Sr (dz H (cs:=[.slice C p.wh.length n,.slice A r.length m,I p.group]) rfl (h:=λb3 w2 H2 k1=>?_));refine Zb3 ?_;refine aF H2 (XI (fZ.keep H2.kept) oM) (h:=λw7 H7 k6=>?_);refine Vv (Gives.not rfl) (Qn ?_);refine Cd rfl (λJf=>?_) (λJf=>?_)
  . rw[zac (by simpa using Jf)]at ay
    refine Zb2 ?_;exact⟨_,by rw[ay];rfl,trivial,by rw[ay];exact(Sep.lZ H7 54 7 aR).first.turn⟩
  rw[zab (by simpa using Jf)]at ay;have arY:p.cols.length<=16:=(yw (by simpa using Jf)).1.2.1;refine Sk (iP (λ_:Unit=>[(0,vc),(3,aA b3)]) (λ_ w'=>res=C9 cols p.group 0 p.cols []/\Sep w noB [blk b3 [.slice C p.wh.length n,.slice A r.length m,I p.group] 26] w') ?_ ?_)
  . refine Za4 ?_
    refine Qn (Cp rfl (λIa=>?_) (λIa=>?_))
    . have iF:p.wh≠[]:=λe=>by rw[e]at Ia;exact zat Ia dC
      refine Zb3 ?_;refine aF H7 (PD (hc.keep H7.kept) (hw.keep H7.kept) MU (hT.keep H7.kept).utf) (h:=λwa Ha ka=>?_);refine Zb3 ?_;refine aW Ha (h:=λb6 wb Hb kb=>?_);refine au Hb (h:=λwc Hc=>?_);refine Za4 ?_;refine Qn (Cp rfl (λIb=>?_) (λIb=>?_))
      . rw[zac ⟨iF,Ib⟩]at ay
        refine Za3 ?_;refine Qn (fu (dF (mG (nG (hR:=?_)))));exact⟨_,by rw[ay];rfl,trivial,by rw[ay];exact(Sep.lZ Hc 54 7 aR).first.turn⟩
      rw[zab (λh=>Ib h.2)]at ay;refine Za4 ?_;refine Qn (Cp rfl (λIc=>?_) (λIc=>?_))
      . rw[zac ⟨iF,Ic⟩]at ay
        refine Za2 ?_;refine Qn (fu (dF (mG (nG (hR:=?_)))));exact⟨_,by rw[ay];rfl,trivial,by rw[ay];exact(Sep.lZ Hc 54 7 aR).first.turn⟩
      rw[zab (λh=>Ic h.2)]at ay;refine Zb0 ?_;exact aG () tR ⟨ay,Hc.eF⟩
    have he:p.wh=[]:=zbi oM;rw[zab (λh=>h.1 he),zab (λh=>h.1 he)]at ay;refine Zb0 ?_;exact aG () tR ⟨ay,H7⟩
  rintro _ τ wd ⟨hres2,Hd⟩;simp only[dA,like,bB,bY];refine Sr (aW Hd (h:=λb8 we He kc=>?_));refine Nx (Vv (Gives.makeFunc (fs:=[]) (us:=[]) (cs:=[.tmp 8]) rfl rfl) (Zb1 ?_));refine Vb (bD r9) ?_;refine aW He (h:=λb10 wf Hf kd=>?_);refine au Hf (h:=λwg Hg=>?_);refine Zb4 ?_
  have Hh:Mw.Sep w noB [Md b8 [],blk b10 (bD r9) 50,blk b3 [.slice C p.wh.length n,.slice A r.length m,I p.group] 26] wg:=by
    have h1:=(Sep.lZ (Hg.aJ) 54 7 aR).aJ;exact Sep.uW (p:=λv=>star (blk b8 [v] 22) (bW 54 7 aR v [])) _ (Sep.bI h1)
  refine aP (λx:Nat×List bL=>[(0,vc),(3,aA b3),(8,aA b8),(9,.func (.func 80) #[] #[aA b8]),(10,aA b10),(40,.slice A r.length m),(41,I r.length),(42,I x.1)]) (λx w'=>(x.1<=r.length/\x.2.length=x.1+BA p.group x.1/\C9 cols p.group x.1 (p.cols.drop x.1) x.2=res)/\Sep w noB [Md b8 x.2,blk b10 (bD r9) 50,blk b3 [.slice C p.wh.length n,.slice A r.length m,I p.group] 26] w') (λx _=>r.length-x.1) (0,[]) tR ⟨⟨zak _,by dsimp only;unfold BA;rw[zab oM];rfl,hres2.symm⟩,Hh⟩ (λx τ wi hI=>?_);obtain⟨i,acc⟩:=x;obtain⟨⟨hi,hal,gQ⟩,Hh⟩:=hI;dsimp only at hi hal gQ Hh;have MP:BA p.group i<=1:=by unfold BA;split<;>omega
  have auT:acc.length<=i+1:=oM
  try simp only[dA,like,bB]
  refine Za1 ?_;refine Qn (fC (Cp rfl (λId=>?_) (λId=>?_)))
  . have bX:i<p.cols.length:=oM
    obtain⟨vx,hx,Cq⟩:=gW.at bX;obtain⟨Ax,cx,rfl,_⟩:=id Cq;have rY:p.cols[i]? =some p.cols[i]:=zaa bX;obtain⟨o,ho⟩: ∃o,o=p.cols[i]:=⟨_,rfl⟩;rw[<-ho]at hx Cq rY;have ZP:=Jh o (zao rY);rw[adT rY,C9]at gQ;unfold BA at hal;refine Zb3 ?_;refine aW Hh (h:=λb12 wj Hi ke=>?_);refine Am ?_;refine au Hi (h:=λwk Hj=>?_);refine Zb3 ?_;refine aF Hj (PD (hc.keep Hj.kept) (Cq.keep Hj.kept) ZP (hT.keep Hj.kept).utf) (h:=λwl Hk kf=>?_);refine Zb3 ?_;refine aW Hk (h:=λb13 wm Hl kg=>?_);refine au Hl (h:=λwn Hm=>?_);refine Za3 ?_;refine Qn (Cp rfl (λIe=>?_) (λIe=>?_))
    . rw[zac Ie]at gQ
      refine Zb3 ?_;exact⟨_,by rw[<-gQ];rfl,trivial,by rw[<-gQ];exact(Sep.lZ Hm 54 7 aR).first.turn⟩
    rw[zab Ie]at gQ;refine Sk (iP (λ_:Unit=>[(0,vc),(3,aA b3),(8,aA b8),(9,.func (.func 80) #[] #[aA b8]),(10,aA b10),(11,I i),(12,aA b12),(13,aA b13),(40,.slice A r.length m),(41,I r.length),(42,I i)]) (λ_ w'=>Sep w noB [blk b13 (bD (jJ cols o.steps).1) 50,blk b12 (bZ (o.name,.slice Ax o.steps.length cx)) 94,Md b8 (if(i:Int)=p.group then acc++[Kw ((i:Int)+1) qB r9]else acc),blk b10 (bD r9) 50,blk b3 [.slice C p.wh.length n,.slice A r.length m,I p.group] 26] w') ?_ ?_)
    . refine Za4 ?_
      refine Qn (Cp rfl (λIf=>?_) (λIf=>?_))
      . have hig:(i:Int)=p.group:=If
        refine Zb2 ?_;obtain⟨F0,Wm,iK,aQ⟩:=Hm.focus At2;refine fB (vals:=[str qB,agg (bD r9)]) rfl (Al qB r9 Wm oM) rfl rfl (λv' wo hv=>?_);obtain⟨rfl,eB,F1,hq,jw⟩:=hv;have Hn:=aQ _ F1 _ eB hq jw;rw[zab oM]at hal;have hid:((acc.length+1:Nat):Int)=(i:Int)+1:=oM;rw[hid]at Hn;refine Zb0 ?_;exact aG () tR (by rw[zac hig];exact Hn)
      have hig: ¬(i:Int)=p.group:=If;refine Zb0 ?_;exact aG () tR (by rw[zab hig];exact Hm)
    intro _ τ wp Ho;simp only[dA,like,bB];refine Zb4 ?_;refine aC (t:=67) rfl (λSa=>?_) (λSa=>?_)
    . refine Za5 ?_
      refine Qn (Cp rfl (λIg=>?_) (λIg=>?_))
      . have hgi:0<=p.group/\p.group<=i:=⟨oM,Ig⟩
        rw[zac hgi]at gQ;refine Za3 ?_;refine Qn (Cp rfl (λIh=>?_) (λIh=>?_))
        . rw[zac Ih]at gQ
          refine Zb2 ?_;exact⟨_,by rw[<-gQ];rfl,trivial,by rw[<-gQ];exact(Sep.lZ Ho 54 7 aR).first.turn⟩
        rw[zab Ih]at gQ;refine Zb1 ?_;refine au Ho (h:=λwq Hp=>?_);refine Zb4 ?_;obtain⟨acc2,alr⟩: ∃acc2,acc2=if(i:Int)=p.group then acc++[Kw ((i:Int)+1) qB r9]else acc:=⟨_,rfl⟩
        rw[<-alr]at Hp gQ
        have auU:acc2.length=i+1:=by
          rw[alr]
          split
          . rw[zab oM]at hal
            rw[zad,zan];omega
          rw[zac oM]at hal;omega
        have hid:((acc2.length+1:Nat):Int)=(i:Int)+2:=oM;obtain⟨F0,Wm,iK,aQ⟩:=Hp.focus At2;refine fB (vals:=[str o.name,agg (bD r9)]) rfl (Al o.name _ Wm oM) rfl rfl (λv' wr hv=>?_);obtain⟨rfl,eB,F1,hq,jw⟩:=hv;have Hq:=aQ _ F1 _ eB hq jw;rw[hid]at Hq;refine Zb2 ?_;exact ak (i+1,acc2++[Kw ((i:Int)+2) o.name r9]) tR ⟨⟨dO,by dsimp only;rw[zad,zan];unfold BA;rw[zac oM];omega,gQ⟩,Hq.eF.eF⟩ dO
      have hgi: ¬(0<=p.group/\p.group<=i):=λh=>Ig h.2;rw[zab hgi]at gQ;refine Zb4 ?_;rw[zab (show ¬(i:Int)=p.group from λe=>hgi ⟨oM,oM⟩)]at Ho;rw[zab oM]at hal;have hid:((acc.length+1:Nat):Int)=(i:Int)+1:=oM;obtain⟨F0,Wm,iK,aQ⟩:=Ho.focus At2;refine fB (vals:=[str o.name,agg (bD (jJ cols o.steps).1)]) rfl (Al o.name _ Wm oM) rfl rfl (λv' ws hv=>?_);obtain⟨rfl,eB,F1,hq,jw⟩:=hv;have Hr:=aQ _ F1 _ eB hq jw;rw[hid]at Hr;refine Zb2 ?_;exact ak (i+1,acc++[Kw ((i:Int)+1) o.name (jJ cols o.steps).1]) tR ⟨⟨dO,by dsimp only;rw[zad,zan];unfold BA;rw[zab oM];omega,gQ⟩,Hr.eF.eF⟩ dO
    have hgi: ¬(0<=p.group/\p.group<=i):=λh=>Sa h.1;rw[zab hgi]at gQ;refine Zb5 ?_;rw[zab (show ¬(i:Int)=p.group from λe=>hgi ⟨oM,oM⟩)]at Ho;rw[zab oM]at hal;have hid:((acc.length+1:Nat):Int)=(i:Int)+1:=oM;obtain⟨F0,Wm,iK,aQ⟩:=Ho.focus At2;refine fB (vals:=[str o.name,agg (bD (jJ cols o.steps).1)]) rfl (Al o.name _ Wm oM) rfl rfl (λv' wt hv=>?_);obtain⟨rfl,eB,F1,hq,jw⟩:=hv;have Hs:=aQ _ F1 _ eB hq jw;rw[hid]at Hs;refine Zb2 ?_;exact ak (i+1,acc++[Kw ((i:Int)+1) o.name (jJ cols o.steps).1]) tR ⟨⟨dO,by dsimp only;rw[zad,zan];unfold BA;rw[zab oM];omega,gQ⟩,Hs.eF.eF⟩ dO
  have qp:i=r.length:=oM;rw[qp,xk,zff,C9]at gQ;rw[qp,xk]at hal;unfold BA at hal;refine Za6 ?_;refine Qn (Cp rfl (λIi=>?_) (λIi=>?_))
  . rw[zac oM]at gQ
    rw[zab oM]at hal;refine Zb2 ?_;have hid:((acc.length+1:Nat):Int)=p.group+1:=oM;obtain⟨F0,Wm,iK,aQ⟩:=Hh.focus At0;refine fB (vals:=[str qB,agg (bD r9)]) rfl (Al qB r9 Wm oM) rfl rfl (λv' wu hv=>?_);obtain⟨rfl,eB,F1,hq,jw⟩:=hv;have Ht:=aQ _ F1 _ eB hq jw;rw[hid]at Ht;refine Nx ?_;have Hu:=Ht;unfold Md at Hu;obtain⟨v8,Hu⟩:=Hu.ex0;have Hu:=Hu.dG;refine Ld Hu ?_;refine Zb2 ?_;exact⟨v8,by rw[<-gQ];rfl,trivial,by rw[<-gQ];exact Hu.aJ.first.turn⟩
  rw[zab oM]at gQ;refine Zb0 ?_;have Hv:=Hh;unfold Md at Hv;obtain⟨v8,Hv⟩:=Hv.ex0;have Hv:=Hv.dG;refine Ld Hv ?_;refine Zb2 ?_;exact⟨v8,by rw[<-gQ];rfl,trivial,by rw[<-gQ];exact Hv.aJ.first.turn⟩
end
section
variable {w:Wd}
end
theorem FH (sep:UInt8): ∀l:List (L8),l≠[]->lg sep l++[sep]=l.flatMap (· ++[sep])
 | [],h=>zat rfl h
 | [w],_=>by simp[lg]
 | w::x::l,_=>by
  have ih:=FH sep (x::l) sM;show(w++sep::lg sep (x::l))++[sep]=_
  rw[zbg,<-ih];simp
theorem OB {l:List bJ} (h:(jR l).2=0) (hf:bK l):(jR l).1.length<=400000:=by
 obtain⟨h1,h2,h3⟩:=Oz h;rw[h3]
 have:=DX 32 (k:=6146) (ws:=l.map iY) λw hw=>by
  obtain⟨x,hxm,rfl⟩:=zaq.1 hw;exact YI (h2 x hxm) (hf x hxm)
 rw[zae]at this;show(lg 32 (l.map iY)).length<=_
 omega
theorem Nr {o:jL}:Oa o=true↔((jR o.steps).2≠0\/(jR o.steps).1=[]):=by unfold Oa;rw[decide_eq_true_iff]
section
variable {w:Wd}
theorem U9 (n:Int) (hn:fits n) (hT:fA w):aN prog 117 [I n] w λv w'=>v=str (Lib.itoa n)/\Kept noB w w':=
 Calls.mono (Tryz.strconv_Itoa n hn.1 hn.2 w hT.pow) λe w' he=>by
  obtain⟨rfl,k,os,rfl⟩:=he;exact⟨rfl,Ro w k os⟩
theorem agJ (sep:UInt8) {l:List (L8)} {v:Value} (hr:aM w v iW 1 l) (hl:l.length<=1000000) (hlen:(lg sep l).length<=140737488355328):aN prog 120 [v,str [sep]] w λv' w'=>v'=str (lg sep l)/\Kept noB w w':=by
 obtain⟨A,c,rfl,⟨hc,hc'⟩,hR⟩:=hr
 by_cases h0:l=[]
 .subst h0
  exact Calls.mono (Tryz.strings_Join_none A c ⟨#[sep]⟩ w) λe w' he=>by
   obtain⟨rfl,rfl⟩:=he;exact⟨rfl,Kept.refl _ _⟩
 have Zo:0<l.length:=zfb.2 h0;obtain⟨ad,rfl⟩:=hR.addr Zo;obtain⟨x0,hx0⟩:=get_some Zo;obtain⟨ad',e0,Qj⟩:=hR.cell (f:=0) hx0 rfl;injection e0 with e0;subst e0
 have Cm:=World.cell?_spot Qj;obtain⟨bk,o,sp⟩:=ad;have amF:sp=none:=Cm;subst amF
 have hbk:bk<w.heap.size:=by
  refine Classical.byContradiction λhn=>?_;unfold World.cell? at Qj;rw[zdi (by show w.heap.size<=bk;omega)]at Qj;cases Qj
 have yV:(l.map λs:L8=>(⟨s.toArray⟩:ByteArray)).map (·.data.toList)=l:=by
  rw[zcy];exact(zco λs _=>rfl).trans (List.map_id l)
 have:=uS (Tryz.strings_Join bk o c (l.map λs=>⟨s.toArray⟩) ⟨#[sep]⟩ w (λj x hj=>by
  rw[zcf]at hj;obtain⟨s,hs,rfl⟩:=zbb.1 hj;obtain⟨ad',e1,hcs⟩:=hR.cell (f:=0) hs rfl;injection e1 with e1;subst e1
  rw[Nat.mul_one,zfj,Addr.add_lit]at hcs;exact hcs) hbk (by rw[zae];omega) (by rw[zae];exact hc) (by rw[yV];show(Lib.join l [sep]).length<=_;rw[join_eq];exact hlen))
 rw[yV,zae]at this;have e:Lib.join l [sep]=lg sep l:=join_eq sep l;rw[<-e];exact this
theorem adV {p:aZ} {v:Value} (hp:eG w v p) (MU:bK p.wh) (Jh: ∀o∈p.cols,bK o.steps) (hn:p.cols.length<=1000000) (hT:fA w):
    aN prog 77 [v] w λv w'=>v=.tuple #[str (LY p).1,I (LY p).2]/\Kept noB w w':=by
  have fZ:=hp;obtain⟨vw,vc,rfl,hw,r,hr,gW⟩:=hp;obtain⟨A,m,rfl,⟨hm,qo⟩,hA⟩:=hr;obtain⟨C,n,rfl,⟨hwn,arX⟩,hC⟩:=id hw;have xk:=gW.len;have H:=Sep.aL w;obtain⟨res,ay⟩: ∃res,res=LY p:=⟨_,rfl⟩;rw[<-ay];unfold LY at ay;have qR:Fj p≠true->res=([],2):=λh=>by rw[ay,zac (by simpa using h)]
  refine eP func77 rfl rfl rfl rfl ?_;refine Sr (dz H (cs:=[.slice C p.wh.length n,.slice A r.length m,I p.group]) rfl (h:=λb1 w2 H2 k1=>?_));refine Zb3 ?_;refine aF H2 (XI (fZ.keep H2.kept) hn) (h:=λw7 H7 k6=>?_);refine Vv (Gives.not rfl) (Qn ?_);refine Cd rfl (λJf=>?_) (λJf=>?_)
  . have iq:res=([],2):=qR λh=>by have h1:=(uN.1 h).1;rw[h1]at Jf;cases Jf
    refine Zb2 ?_;exact⟨by rw[iq];rfl,H7.kept⟩
  have Un:zM p=true:=by simpa using Jf
  obtain⟨⟨Kl,arY,hg1,hg2⟩,aiR⟩:=yw Un;refine Zb2 ?_;refine aF H7 (WT (hw.keep H7.kept) MU (hT.keep H7.kept)) (h:=λwa Ha ka=>?_);refine Za7 ?_;refine Qn (Cp rfl (λIa=>?_) (λIa=>?_))
  . have iq:res=([],2):=qR λh=>Ia (uN.1 h).2.1
    refine Zb2 ?_;exact⟨by rw[iq];rfl,Ha.kept⟩
  have htw:(jR p.wh).2=0:=oM;have hwl:=OB htw MU;refine Sk (iP (λ_:Unit=>[(1,aA b1),(4,str (if p.wh=[]then oJ else(jR p.wh).1))]) (λ_ w'=>Sep w noB [blk b1 [.slice C p.wh.length n,.slice A r.length m,I p.group] 26] w') ?_ ?_)
  . refine Za4 ?_
    refine Qn (Cp rfl (λIb=>?_) (λIb=>?_))
    . have he:p.wh=[]:=zbi oM
      refine Zb1 ?_;exact aG () ⟨rfl,by rw[zac he];rfl,trivial⟩ Ha
    have he: ¬p.wh=[]:=λe=>Ib (by rw[e];rfl);refine Zb0 ?_;exact aG () ⟨rfl,by rw[zab he];rfl,trivial⟩ Ha
  intro _ τ wb Hb;have h4n:oJ.length=4:=rfl;have hq4:(if p.wh=[]then oJ else(jR p.wh).1).length<=400000:=by split<;>omega
  simp only[dA,like,bB,bY];refine Zb2 ?_;refine Bs Hb ([zk p.wh].flatMap iW) (λbs wc Hc kb=>?_);have Hc:=aqk Hc;refine Zb5 ?_;have Hd:Mw.Sep w noB [bW 9 1 iW (.slice (some ⟨bs,0,none⟩) 1 1) (zk p.wh::(p.cols.take 0).map vY),blk b1 [.slice C p.wh.length n,.slice A r.length m,I p.group] 26] wc:=Hc;refine aP (λx:Nat×Value=>[(1,aA b1),(6,x.2),(31,.slice A r.length m),(32,I r.length),(33,I x.1)]) (λx w'=>(x.1<=r.length/\∀(j:Nat) o,j<x.1->p.cols[j]? =some o->Oa o=false)/\Sep w noB [bW 9 1 iW x.2 (zk p.wh::(p.cols.take x.1).map vY),blk b1 [.slice C p.wh.length n,.slice A r.length m,I p.group] 26] w') (λx _=>r.length-x.1) (0,_) tR ⟨⟨zak _,λj o hj=>zat hj (zen j)⟩,Hd⟩ (λx τ wd hI=>?_);obtain⟨i,v0⟩:=x;obtain⟨⟨hi,tq⟩,Hd⟩:=hI;dsimp only at hi tq Hd;have yV:(zk p.wh::(p.cols.take i).map vY).length=i+1:=by rw[zal,zae,zag];omega
  try simp only[dA,like,bB]
  refine Za1 ?_;refine Qn (fC (Cp rfl (λIc=>?_) (λIc=>?_)))
  . have bX:i<p.cols.length:=oM
    obtain⟨vx,hx,Cq⟩:=gW.at bX;obtain⟨Ax,cx,rfl,_⟩:=id Cq;have rY:p.cols[i]? =some p.cols[i]:=zaa bX;obtain⟨o,ho⟩: ∃o,o=p.cols[i]:=⟨_,rfl⟩;rw[<-ho]at hx Cq rY;have hmo:=zao rY;have tF:zk p.wh::(p.cols.take (i+1)).map vY=(zk p.wh::(p.cols.take i).map vY)++[vY o]:=by rw[zav,rY,zam];rfl
    refine Zb2 ?_;refine aW Hd (h:=λb8 we He kc=>?_);refine au He (h:=λwf Hf=>?_);refine Zb2 ?_;refine aF Hf (WT (Cq.keep Hf.kept) (Jh o hmo) (hT.keep Hf.kept)) (h:=λwg Hg kd=>?_);refine Zb8 ?_;refine aC (t:=45) rfl (λSa=>?_) (λSa=>?_)
    . have sN:Oa o=true:=Nr.2 (.inl Sa)
      refine Zb3 ?_;have iq:res=([],2):=qR λh=>by have h1:=(uN.1 h).2.2 o hmo;rw[h1]at sN;cases sN
      exact⟨by rw[iq];rfl,Hg.kept⟩
    refine Za3 ?_;refine Qn (Cp rfl (λId=>?_) (λId=>?_))
    . have sN:Oa o=true:=Nr.2 (.inr Id)
      refine Zb2 ?_;have iq:res=([],2):=qR λh=>by have h1:=(uN.1 h).2.2 o hmo;rw[h1]at sN;cases sN
      exact⟨by rw[iq];rfl,Hg.kept⟩
    have gT:Oa o=false:=by
      rw[<-zdm];intro h
      rcases Nr.1 h with h | h
      . omega
      exact Id h
    have hts:(jR o.steps).2=0:=oM;have auV:=OB hts (Jh o hmo)
    have hnl:o.name.length<=32:=by
      have h5:=aiR o hmo;unfold jE at h5;simp only[zbv,decide_eq_true_eq]at h5;omega
    refine Zb7 ?_;refine Bs Hg ([vY o].flatMap iW) (λbs wi Hh ke=>?_);refine gP Hh (news:=[vY o]) At1 (by rw[yV];unfold maxLen;simp;omega) (by rw[yV];simp;omega) (cells_one (λ_=>rfl) _) (h:=?_);intro v2 wj Hi;rw[<-tF]at Hi;refine Zb3 ?_;exact ak (i+1,v2) tR ⟨⟨dO,λj y hj hy=>by
    by_cases e:j=i
    . subst e;rw[rY]at hy;injection hy with hy;rw[<-hy];exact gT
    exact tq j y (by dsimp only at hj;omega) hy⟩,Hi.eF⟩ dO
  have qp:i=r.length:=oM;rw[qp,zaf oM]at Hd yV
  have lQ: ∀o∈p.cols,Oa o=false:=λo ho=>by
    obtain⟨j,hj⟩:=zdh ho;exact tq j o (by have:=jk hj;omega) hj
  have J8:Fj p=true:=uN.2 ⟨Un,htw,lQ⟩;rw[zab (by rw[J8];decide)]at ay;refine Za1 ?_;refine Qn (iP (λ_:Unit=>[(6,v0),(11,str (if p.group<0 then oJ else itoa p.group))]) (λ_ w'=>Sep w noB [bW 9 1 iW v0 (zk p.wh::p.cols.map vY),blk b1 [.slice C p.wh.length n,.slice A r.length m,I p.group] 26] w') ?_ ?_)
  . refine Za3 ?_
    refine Qn (Cp rfl (λIe=>?_) (λIe=>?_))
    . have hg: ¬p.group<0:=oM
      refine Zb2 ?_;refine aF Hd (U9 p.group ⟨oM,oM⟩ (hT.keep Hd.kept)) (h:=λwk Hj kf=>?_);refine Zb1 ?_;exact aG () ⟨rfl,by rw[zab hg];rfl,trivial⟩ Hj
    have hg:p.group<0:=oM;refine Zb0 ?_;exact aG () ⟨rfl,by rw[zac hg];rfl,trivial⟩ Hd
  intro _ τ wl Hk;have h6:=itoa_length_le p.group oM oM;have hq6:(if p.group<0 then oJ else itoa p.group).length<=30:=by split<;>omega
  simp only[dA,like,bB];refine Zb3 ?_;refine Bs Hk ([Ad p.group].flatMap iW) (λbs2 wm Hl kg=>?_);refine gP Hl (news:=[Ad p.group]) At0 (by rw[yV];unfold maxLen;simp;omega) (by rw[yV];simp;omega) (cells_one (λ_=>rfl) _) (h:=?_);intro v2 wn Hm;have hlp:(zk p.wh::p.cols.map vY)++[Ad p.group]=nV p:=rfl;rw[hlp]at Hm;have MR:(nV p).length<=1002:=by unfold nV;rw[zal,zad,zae,zan];omega
  have hlj:(lg 10 (nV p)).length<=(400100+1)*(nV p).length:=DX 10 (k:=400100) λx hx=>by
    unfold nV at hx
    rcases zap.1 hx with rfl | hx
    . unfold zk UO
      rw[zad];have h4:oJ.length=4:=rfl
      split<;>simp only[zal,zcq]<;>omega
    rcases zbh.1 hx with hx | hx
    . obtain⟨o,ho,rfl⟩:=zaq.1 hx
      have h1:=lQ o ho;have h2:(jR o.steps).2=0:=Classical.byContradiction λh=>by rw[Nr.2 (.inl h)]at h1;cases h1
      have h3:=OB h2 (Jh o ho);have h5:=aiR o ho;unfold jE at h5;simp only[zbv,decide_eq_true_eq]at h5;unfold vY aai;simp only[zad,zal,zcq];omega
    rw[zay]at hx;subst hx;unfold Ad N9;rw[zad];have h4:oJ.length=4:=rfl;have h6:=itoa_length_le p.group oM oM
    split<;>simp only[zal,zcq]<;>omega
  refine aF Hm (agJ 10 (lu Hm At0) oM oM) (h:=λwo Hn kh=>?_);refine Zb3 ?_;exact⟨by rw[ay];show Value.tuple #[str (lg 10 (nV p)++[10]),I 0]=_;rw[FH 10 _ (by unfold nV;simp)];rfl,Hn.kept⟩
end
def FI (b:Bool):L8:=if b=true then [116,114,117,101]else [102,97,108,115,101]
def Aq (c:aI):L8:=FI c.null++(32::(itoa c.n++(32::(itoa (c.s.length:Int)++(32::c.s)))))
def gB (k:List aI):L8:=k.flatMap Aq
def iM (k:List aI):Prop:=∀c∈k,(-9223372036854775808<=c.n/\c.n<=9223372036854775807)/\c.s.length<=1000000
theorem Ew: ∀{a b x y:L8},(∀c∈a,c≠32)->(∀c∈b,c≠32)->a++32::x=b++32::y->a=b/\x=y
 | [],[],x,y,_,_,h=>by simpa using h
 | [],d::b,x,y,_,hb,h=>by
  simp only[zbr,zcc,List.cons.injEq]at h;exact zat h.1.symm (hb d zah)
 | c::a,[],x,y,ha,_,h=>by
  simp only[zbr,zcc,List.cons.injEq]at h;exact zat h.1 (ha c zah)
 | c::a,d::b,x,y,ha,hb,h=>by
  simp only[zcc,List.cons.injEq]at h;obtain⟨h1,h2⟩:=Ew (a:=a) (b:=b) (λz hz=>ha z (zai _ hz)) (λz hz=>hb z (zai _ hz)) h.2;exact⟨by rw[h.1,h1],h2⟩
theorem XP (b:Bool): ∀c∈FI b,c≠32:=by cases b<;>decide
theorem adW {a b:Bool} (h:FI a=FI b):a=b:=by cases a<;>cases b<;>first | rfl | exact zat h dC
theorem XQ {a b:Int} (ha: -9223372036854775808<=a/\a<=9223372036854775807) (hb: -9223372036854775808<=b/\b<=9223372036854775807) (h:itoa a=itoa b):a=b:=by
 rw[<-zB ha.1 ha.2,h,zB hb.1 hb.2]
theorem XT (c:aI) (x:L8):Aq c++x≠[]:=by
 unfold Aq FI;cases c.null<;>simp
theorem adX {c d:aI} {x y:L8} (hc:(-9223372036854775808<=c.n/\c.n<=9223372036854775807)/\c.s.length<=1000000) (hd:(-9223372036854775808<=d.n/\d.n<=9223372036854775807)/\d.s.length<=1000000)
    (h:Aq c++x=Aq d++y):c=d/\x=y:=by
  unfold Aq at h;simp only[zbs,zcc]at h;obtain⟨h1,h2⟩:=Ew (XP _) (XP _) h;obtain⟨h3,h4⟩:=Ew (ER _) (ER _) h2;obtain⟨h5,h6⟩:=Ew (ER _) (ER _) h4;have hn:=XQ hc.1 hd.1 h3
  have hl:c.s.length=d.s.length:=by
    have:=XQ oM oM h5;omega
  obtain⟨h7,h8⟩:=List.append_inj h6 hl;refine⟨?_,h8⟩;have hb:=adW h1;cases c;cases d;simp_all
theorem Ey: ∀{a b:List aI},iM a->iM b->gB a=gB b->a=b
 | [],[],_,_,_=>rfl
 | [],d::b,_,_,h=>by
  unfold gB at h;rw[zep,zbg]at h;exact zat h.symm (XT d _)
 | c::a,[],_,_,h=>by
  unfold gB at h;rw[zep,zbg]at h;exact zat h (XT c _)
 | c::a,d::b,ha,hb,h=>by
  unfold gB at h;rw[zbg,zbg]at h;obtain⟨h1,h2⟩:=adX (ha c zah) (hb d zah) h;rw[h1,Ey (a:=a) (b:=b) (λz hz=>ha z (zai _ hz)) (λz hz=>hb z (zai _ hz)) h2]
theorem RU (c:aI) (h:(-9223372036854775808<=c.n/\c.n<=9223372036854775807)/\c.s.length<=1000000):(Aq c).length<=1000100:=by
 have h1:=DW h.1.1 h.1.2;have h2:=DW (n:=(c.s.length:Int)) oM oM;have h3:(FI c.null).length<=5:=by cases c.null<;>decide
 unfold Aq;simp only[zad,zal];omega
theorem acs {n:Int} (h: -9223372036854775808<=n/\n<=9223372036854775807):(itoa n).length<=20:=DW h.1 h.2
theorem RV {k:List aI} (h:iM k):(gB k).length<=k.length*1000100:=by
 induction k with
 | nil=>exact zbf _
 | cons c k ih=>
  have h1:=ih λd hd=>h d (zai _ hd);have h2:=RU c (h c zah);show(Aq c++gB k).length<=_
  rw[zad,zal];omega
theorem aax {k:List aI} {i:Nat} {c:aI} (h:k[i]? =some c):gB (k.take (i+1))=gB (k.take i)++Aq c:=by
 unfold gB;rw[zav,h,zcd];simp
section
variable {w:Wd}
theorem acu {k:List aI} {v:Value} (hk:aM w v aj 3 k) (hn:k.length<=64) (Fz:iM k) (hT:fA w):aN Tryz.prog 408 [v] w λu w'=>u=str (gB k)/\Kept noB w w':=by
 obtain⟨A,m,rfl,⟨hm,qo⟩,hA⟩:=hk;have H:=Sep.aL w;refine eP Tryz.func408 rfl rfl rfl rfl ?_;refine Zb1 ?_;refine aW H (h:=λb3 w3 H3 k2=>?_);have H3:=Sep.ako H3;refine Zb3 ?_;refine aP (λi:Nat=>[(0,.slice A k.length m),(3,aA b3),(6,.slice A k.length m),(7,I k.length),(8,I i)]) (λi w'=>i<=k.length/\Mw.Sep w noB [y7 b3 (gB (k.take i))] w') (λi _=>k.length-i) 0 tR ⟨zak _,H3⟩ (λi τ w8 hI=>?_);obtain⟨hi,H8⟩:=hI
 try simp only[dA,like,bB,bY]
 refine Za1 ?_;refine Qn (fC (Cp rfl (λIa=>?_) (λIa=>?_)))
 .have bX:i<k.length:=oM
  obtain⟨c,hc⟩:=get_some bX;have hcf:=Fz c (zao hc);have ZM:=aax hc;have hl1:=RV (k:=k.take i) λd hd=>Fz d (zbo hd);have hl2:=RU c hcf;have hl3:=acs hcf.1;have hl4:=acs (n:=(c.s.length:Int)) ⟨oM,oM⟩;rw[zag,zck hi]at hl1;have hbl:(FI c.null).length<=5:=by unfold FI;split<;>decide
  refine Zb2 ?_;refine aW H8 (h:=λb5 wa Ha ka=>?_);refine au Ha (h:=λwb Hb=>?_);refine Qn (Ds (λSa wc Hc=>?_));refine Zb2 ?_;refine Gp Sa 4 rfl rfl (λ_=>(Gives.ou rfl)) (Zb1 ?_);refine Gp Sa 9 rfl rfl (λ_=>(Gives.ou rfl)) (Zb2 ?_);refine Gp Sa 15 rfl rfl (λ_=>(Gives.ou rfl)) (Zb1 ?_);refine iZ (v:=str (FI c.null)) Sa 2 [(16,false),(15,true),(11,true),(10,false),(9,true),(5,false),(4,true)] Hc (aN.mono (FD c.null) λu w' h=>⟨h.1,h.2▸Kept.refl _ _⟩) (h:=λwd Hd kb=>⟨aY Hd (h:=ah (ah (aY Hd (h:=ah (aY Hd (h:=ah (aK))))))),?_⟩);refine GS (Gn rfl (λ_=>(Gives.Yq rfl rfl (by simp only[zad,zal,zcq];omega))) ?_);refine iZ Sa 6 [(3,true),(16,false),(15,true),(11,true),(10,false),(9,true)] Hd (Br c.n hcf.1 (hT.keep Hd.kept)) (h:=λwe He kc=>⟨ah (aY He (h:=ah (ah (aY He (h:=ah (aK)))))),?_⟩);refine GS (Gn rfl (λ_=>(Gives.Yq rfl rfl (by simp only[zad,zal,zcq];omega))) ?_);refine GS (Gn rfl (λ_=>(Gives.Yq rfl rfl (by simp only[zad,zal,zcq];omega))) ?_);refine iZ Sa 12 [(8,true),(7,true),(3,true),(16,false),(15,true)] He (U9 (c.s.length:Int) (by unfold fits;omega) (hT.keep He.kept)) (h:=λwf Hf kd=>⟨ah (ah (ah (aY Hf (h:=ah (aK))))),?_⟩);refine GS (Gn rfl (λ_=>(Gives.Yq rfl rfl (by simp only[zad,zal,zcq];omega))) ?_);refine GS (Gn rfl (λ_=>(Gives.Yq rfl rfl (by simp only[zad,zal,zcq];omega))) ?_);refine Gp Sa 17 rfl rfl (λ_=>(Gives.Yq rfl rfl (by simp only[zad,zal,zcq];omega))) ?_
  have e:FI c.null++[32]++itoa c.n++[32]++itoa (c.s.length:Int)++[32]++c.s=Aq c:=by unfold Aq;simp
  rw[e];obtain⟨F0,fZ,iK,aQ⟩:=Hf.focus At1;refine fO Sa 18 [] rfl kR (vR (news:=Aq c) fZ oM) rfl kR kR (λv' wg hv=>?_);obtain⟨rfl,eB,F1,tC,hs⟩:=hv;have Hg:=aQ _ F1 _ eB tC hs;rw[<-ZM]at Hg;refine⟨sT,?_⟩;refine Zb0 ?_;refine Vc ((i+1:Nat):Int) ?_;refine Zb1 ?_;exact ak (i+1) tR ⟨oM,Hg.eF⟩ oM
 have qp:i=k.length:=oM;rw[qp,zbl]at H8;refine Zb0 ?_;have hl5:=RV Fz;obtain⟨F0,fZ,iK,aQ⟩:=H8.focus At0;refine aS (E9 fZ oM) rfl rfl (λv' wh hv=>?_);obtain⟨rfl,eB,F1,tC,hs⟩:=hv;have Hh:=aQ _ F1 _ eB tC hs;refine Zb1 ?_;exact⟨rfl,Hh.kept⟩
end
abbrev JD:=Value×Value×dH
def BD (z:JD):LV:=[z.1,z.2.1,I z.2.2.w]
instance:lY BD 3:=⟨λ_=>rfl⟩
def Mf (w:Wd) (Z:List JD):Prop:=∀z∈Z,aM w z.1 aj 3 z.2.2.key/\aM w z.2.1 aj 3 z.2.2.vals
theorem Mf.keep {w w':Wd} {Z:List JD} (h:Mf w Z) (hk:Kept noB w w'):Mf w' Z:=λz hz=>⟨(h z hz).1.keep hk,(h z hz).2.keep hk⟩
def CG (n:Int):LV:=[I n]
instance:lY CG 1:=⟨λ_=>rfl⟩
def BF {α:Type} (w:Wd) (fv:Value) (enc:α->Value) (l:List α) (p:α->Bool):Prop:=
 ∃f fs cs,fv=.func (.func f) (List.toArray fs) (List.toArray cs)/\bC prog f/\∀x∈l,∀w',Kept noB w w'->aN prog f (fs++[enc x]++cs) w' λv w''=>v=.bool (p x)/\Kept noB w' w''
theorem BF.keep {α:Type} {w w':Wd} {fv:Value} {enc:α->Value} {l:List α} {p:α->Bool} (h:BF w fv enc l p) (hk:Kept noB w w'):BF w' fv enc l p:=by
 obtain⟨f,fs,cs,h1,h2,h3⟩:=h;exact⟨f,fs,cs,h1,h2,λx hx w'' hk'=>h3 x hx w'' (hk.NK hk')⟩
section
variable {w:Wd}
theorem agK {l:List JD} {v fv:Value} {p:JD->Bool} (hl:aM w v BD 3 l) (hp:BF w fv (λx=>agg (BD x)) l p):aN prog 404 [v,fv] w λv w'=>v=I (Fu (l.findIdx? p))/\Kept noB w w':=by
 obtain⟨A,m,rfl,⟨hm,qo⟩,hA⟩:=hl;obtain⟨f,fs,cs,rfl,G7,uz⟩:=hp;have H:=Sep.aL w;refine dS func404 rfl rfl rfl rfl ?_;refine Zb4 ?_;refine aP (λi:Nat=>[(0,.slice A l.length m),(1,.func (.func f) fs.toArray cs.toArray),(7,I l.length),(8,I i)]) (λi w'=>(i<=l.length/\∀(j:Nat) y,j<i->l[j]? =some y->p y=false)/\Sep w noB [] w') (λi _=>l.length-i) 0 tR ⟨⟨zak _,λj y hj=>oM⟩,H⟩ (λi τ w6 hI=>?_);obtain⟨⟨hi,Cu⟩,H6⟩:=hI
 try simp only[dA,like,bB,bY]
 refine Za1 ?_;refine Qn (fC (Cp rfl (λy8=>?_) (λy8=>?_)))
 .have bX:i<l.length:=oM
  obtain⟨x,hx⟩:=get_some bX;refine Zb7 ?_;refine fB rfl (uz x (zao hx) _ H6.kept) rfl rfl (λv' wa hv=>?_);obtain⟨rfl,eB⟩:=hv;have Ha:=H6.keep eB;refine Qn (Cd rfl (λIa=>?_) (λIa=>?_))
  .have iq:l.findIdx? p=some i:=zD Cu hx Ia
   refine Zb2 ?_;exact⟨by rw[iq];rfl,Ha.kept⟩
  have Rh:=Ia;refine Zb0 ?_;refine Vc ((i+1:Nat):Int) ?_;refine Zb1 ?_;exact ak (i+1) tR ⟨⟨oM,λj y hj hy=>by
  by_cases e:j=i
  .subst e;rw[hx]at hy;injection hy with hy;rw[<-hy];exact zdm _▸Rh
  exact Cu j y oM hy⟩,Ha⟩ oM
 have qp:i=l.length:=oM;have iq:l.findIdx? p=none:=vI λj y hy=>Cu j y (by have:=jk hy;omega) hy;refine Zb1 ?_;exact⟨by rw[iq];rfl,H6.kept⟩
theorem XU {l:List JD} {v fv:Value} {p:JD->Bool} (hl:aM w v BD 3 l) (hp:BF w fv (λx=>agg (BD x)) l p):aN prog 396 [v,fv] w λv w'=>v=.bool (l.any p)/\Kept noB w w':=by
 have H:=Sep.aL w;refine dS func396 rfl rfl rfl rfl ?_;refine Zb3 ?_;refine aF H (agK (hl.keep H.kept) (hp.keep H.kept)) (h:=λw5 H5 k4=>?_);refine Zb2 ?_;exact⟨by rw[<-EU];rfl,H5.kept⟩
theorem adY {l:List aI} {v fv:Value} {p:aI->Bool} (hl:aM w v aj 3 l) (hp:BF w fv (λx=>agg (aj x)) l p):aN prog 412 [v,fv] w λv w'=>v=I (Fu (l.findIdx? p))/\Kept noB w w':=by
 obtain⟨A,m,rfl,⟨hm,qo⟩,hA⟩:=hl;obtain⟨f,fs,cs,rfl,G7,uz⟩:=hp;have H:=Sep.aL w;refine dS func412 rfl rfl rfl rfl ?_;refine Zb4 ?_;refine aP (λi:Nat=>[(0,.slice A l.length m),(1,.func (.func f) fs.toArray cs.toArray),(7,I l.length),(8,I i)]) (λi w'=>(i<=l.length/\∀(j:Nat) y,j<i->l[j]? =some y->p y=false)/\Sep w noB [] w') (λi _=>l.length-i) 0 tR ⟨⟨zak _,λj y hj=>oM⟩,H⟩ (λi τ w6 hI=>?_);obtain⟨⟨hi,Cu⟩,H6⟩:=hI
 try simp only[dA,like,bB,bY]
 refine Za1 ?_;refine Qn (fC (Cp rfl (λy8=>?_) (λy8=>?_)))
 .have bX:i<l.length:=oM
  obtain⟨x,hx⟩:=get_some bX;refine Zb7 ?_;refine fB rfl (uz x (zao hx) _ H6.kept) rfl rfl (λv' wa hv=>?_);obtain⟨rfl,eB⟩:=hv;have Ha:=H6.keep eB;refine Qn (Cd rfl (λIa=>?_) (λIa=>?_))
  .have iq:l.findIdx? p=some i:=zD Cu hx Ia
   refine Zb2 ?_;exact⟨by rw[iq];rfl,Ha.kept⟩
  have Rh:=Ia;refine Zb0 ?_;refine Vc ((i+1:Nat):Int) ?_;refine Zb1 ?_;exact ak (i+1) tR ⟨⟨oM,λj y hj hy=>by
  by_cases e:j=i
  .subst e;rw[hx]at hy;injection hy with hy;rw[<-hy];exact zdm _▸Rh
  exact Cu j y oM hy⟩,Ha⟩ oM
 have qp:i=l.length:=oM;have iq:l.findIdx? p=none:=vI λj y hy=>Cu j y (by have:=jk hy;omega) hy;refine Zb1 ?_;exact⟨by rw[iq];rfl,H6.kept⟩
theorem Va {l:List aI} {v fv:Value} {p:aI->Bool} (hl:aM w v aj 3 l) (hp:BF w fv (λx=>agg (aj x)) l p):aN prog 406 [v,fv] w λv w'=>v=.bool (l.any p)/\Kept noB w w':=by
 have H:=Sep.aL w;refine dS func406 rfl rfl rfl rfl ?_;refine Zb3 ?_;refine aF H (adY (hl.keep H.kept) (hp.keep H.kept)) (h:=λw5 H5 k4=>?_);refine Zb2 ?_;exact⟨by rw[<-EU];rfl,H5.kept⟩
theorem agL {l:List Int} {v fv:Value} {p:Int->Bool} (hl:aM w v CG 1 l) (hp:BF w fv (λx=>I x) l p):aN prog 410 [v,fv] w λv w'=>v=I (Fu (l.findIdx? p))/\Kept noB w w':=by
 obtain⟨A,m,rfl,⟨hm,qo⟩,hA⟩:=hl;obtain⟨f,fs,cs,rfl,G7,uz⟩:=hp;have H:=Sep.aL w;refine dS func410 rfl rfl rfl rfl ?_;refine Zb4 ?_;refine aP (λi:Nat=>[(0,.slice A l.length m),(1,.func (.func f) fs.toArray cs.toArray),(7,I l.length),(8,I i)]) (λi w'=>(i<=l.length/\∀(j:Nat) y,j<i->l[j]? =some y->p y=false)/\Sep w noB [] w') (λi _=>l.length-i) 0 tR ⟨⟨zak _,λj y hj=>oM⟩,H⟩ (λi τ w6 hI=>?_);obtain⟨⟨hi,Cu⟩,H6⟩:=hI
 try simp only[dA,like,bB,bY]
 refine Za1 ?_;refine Qn (fC (Cp rfl (λy8=>?_) (λy8=>?_)))
 .have bX:i<l.length:=oM
  obtain⟨x,hx⟩:=get_some bX;refine Zb7 ?_;refine fB rfl (uz x (zao hx) _ H6.kept) rfl rfl (λv' wa hv=>?_);obtain⟨rfl,eB⟩:=hv;have Ha:=H6.keep eB;refine Qn (Cd rfl (λIa=>?_) (λIa=>?_))
  .have iq:l.findIdx? p=some i:=zD Cu hx Ia
   refine Zb2 ?_;exact⟨by rw[iq];rfl,Ha.kept⟩
  have Rh:=Ia;refine Zb0 ?_;refine Vc ((i+1:Nat):Int) ?_;refine Zb1 ?_;exact ak (i+1) tR ⟨⟨oM,λj y hj hy=>by
  by_cases e:j=i
  .subst e;rw[hx]at hy;injection hy with hy;rw[<-hy];exact zdm _▸Rh
  exact Cu j y oM hy⟩,Ha⟩ oM
 have qp:i=l.length:=oM;have iq:l.findIdx? p=none:=vI λj y hy=>Cu j y (by have:=jk hy;omega) hy;refine Zb1 ?_;exact⟨by rw[iq];rfl,H6.kept⟩
theorem XV {l:List Int} {v fv:Value} {p:Int->Bool} (hl:aM w v CG 1 l) (hp:BF w fv (λx=>I x) l p):aN prog 401 [v,fv] w λv w'=>v=.bool (l.any p)/\Kept noB w w':=by
 have H:=Sep.aL w;refine dS func401 rfl rfl rfl rfl ?_;refine Zb3 ?_;refine aF H (agL (hl.keep H.kept) (hp.keep H.kept)) (h:=λw5 H5 k4=>?_);refine Zb2 ?_;exact⟨by rw[<-EU];rfl,H5.kept⟩
def aay (c:aI):Bool:=decide (c.s≠[]\/(c.null=true/\c.n≠0))
theorem ajH (c:aI):aN prog 405 [agg (aj c)] w λv w'=>v=.bool (aay c)/\Kept noB w w':=by
 have H:=Sep.aL w;refine eP func405 rfl rfl rfl rfl ?_;refine Sr (dz H (cs:=aj c) rfl (h:=λb1 w2 H2 k1=>?_));refine Zb5 ?_;refine aC (t:=6) rfl (λhs8=>?_) (λhs8=>?_)
 .refine Zb2 ?_
  exact⟨by unfold aay;simp only[*,fH];simp[*],H2.kept⟩
 refine Zb3 ?_;refine iN (t:=9) rfl (λSa=>?_) (λSa=>?_)
 .refine Zb6 ?_
  exact⟨by unfold aay;simp only[*,fH];simp[*],H2.kept⟩
 refine Zb3 ?_;exact⟨by unfold aay;simp only[*,fH];simp[*],H2.kept⟩
end
end Go.Proofs.YtkfpleidaoaonaaGreatDoor
