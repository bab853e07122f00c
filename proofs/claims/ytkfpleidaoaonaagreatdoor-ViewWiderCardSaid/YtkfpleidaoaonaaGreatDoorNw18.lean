/-
 Texts of plans:written,read back. No program stands here.
-/
import Derived.Test.YtkfpleidaoaonaaGreatDoorNw1
import Derived.Test.YtkfpleidaoaonaaGreatDoorNw13
import Derived.Test.YtkfpleidaoaonaaGreatDoorNw3
import Derived.Test.YtkfpleidaoaonaaGreatDoorNw17
import Derived.Test.YtkfpleidaoaonaaGreatDoorNw5
import Derived.Test.YtkfpleidaoaonaaGreatDoorNw12
import Derived.Test.YtkfpleidaoaonaaGreatDoorNw16
import Derived.Test.YtkfpleidaoaonaaGreatDoorNw7
set_option linter.unusedVariables false
set_option linter.unusedSimpArgs false
namespace Go.Proofs.YtkfpleidaoaonaaGreatDoor
open Go Go.Lib Go.Mw
set_option maxRecDepth 4000
theorem DZ: ∀l:List (L8),rV l=iP 10 (l++[[]])
 | []=>rfl
 | [w]=>by simp[rV,iP]
 | w::x::l=>by
  have ih:=DZ (x::l);unfold rV at ih ⊢;rw[zbc,ih];show w++[10]++_=w++10::iP 10 (x::l++[[]])
  simp
theorem MS {ls:List (L8)} (h: ∀w∈ls,∀c∈w,c≠10):iW (rV ls)=(ls,true):=by
 have hs:bY 10 (rV ls)=ls++[[]]:=by
  rw[DZ];refine Dg sM λw hw=>?_
  rcases zbi.1 hw with h1 | h1
  .exact h w h1
  rw[zar.1 h1];intro c hc;cases hc
 unfold iW;rw[hs,zac sM];simp
theorem Fg (s:L8):bY 10 s≠[]:=λe=>by
 have:=Di 10 s;cases s with
 | nil=>cases e
 | cons c l=>rw[e]at this;cases this
/-! Lines bear no line feed. -/
theorem KM (n:Int): ∀c∈itoa n,c≠10:=by
 intro c hc e;subst e
 have key: ∀u,(10:UInt8)∉decDigits u:=λu h=>by
  have:=oh u _ h;simp[tX]at this
 unfold itoa at hc
 split at hc
 .rcases zan.1 hc with h | h
  .exact zap h dC
  exact key _ h
 exact key _ hc
theorem N8 {d:Nat} (h:d<16):l8 d≠10:=by
 have key: ∀d:Fin 16,l8 d.val≠10:=dC;exact key ⟨d,h⟩
theorem WW (c:UInt8): ∀x∈iF c,x≠10:=by
 have key: ∀i:Fin 256,∀x∈iF (UInt8.ofNat i.val),x≠10:=by decide+kernel
 have:=key ⟨c.toNat,c.toNat_lt⟩;simpa using this
theorem adS {x:aZ} (h:iE x=true): ∀c∈gF x,c≠10:=by
 obtain⟨k,n,s⟩:=x;unfold iE at h;unfold gF;dsimp only at h |-
 by_cases H:k=1
 .rw[zac H]
  intro c hc
  rcases zan.1 hc with rfl | hc
  .decide
  exact KM n c hc
 rw[zab H]at h |-
 by_cases H:k=2
 .rw[zac H];exact KM n
 rw[zab H]at h |-
 by_cases H:k=3
 .rw[zac H]
  split<;>decide
 rw[zab H]at h |-
 by_cases H:k=4
 .rw[zac H,zT]
  intro c hc
  rcases zan.1 hc with rfl | hc
  .decide
  rcases zbi.1 hc with hc | hc
  .obtain⟨y,_,hy⟩:=zcz.1 hc
   exact WW y c hy
  simp only[zar]at hc;subst hc;decide
 rw[zab H]at h |-
 by_cases H:k=5
 .rw[zac H]
  intro c hc
  rcases zan.1 hc with rfl | hc
  .decide
  obtain⟨y,_,hy⟩:=zcz.1 hc;simp only[zan,zao,or_false]at hy
  rcases hy with rfl | rfl
  .exact N8 (by have:=y.toNat_lt;omega)
  exact N8 oM
 rw[zab H]at h |-
 by_cases H:k=6
 .subst H
  rw[zac rfl]at h ⊢;simp only[decide_eq_true_eq]at h;obtain⟨_,hn⟩:=h;have :n=1\/n=3\/n=4\/n=5:=by omega
  rcases this with rfl | rfl | rfl | rfl<;>decide
 rw[zab H]at h ⊢;simp only[decide_eq_true_eq]at h;obtain⟨ha,hb,_,_⟩:=h;have :k=7\/k=8\/k=9\/k=10\/k=11\/k=12\/k=13\/k=14\/k=15\/k=16\/k=17\/k=18:=by omega
 rcases this with rfl | rfl | rfl | rfl | rfl | rfl | rfl | rfl | rfl | rfl | rfl | rfl<;>decide
theorem TV: ∀{ws:List (L8)},(∀w∈ws,∀c∈w,c≠10)->∀c∈iP 32 ws,c≠10
 | [],_=>by intro c hc;cases hc
 | [w],h=>h w zae
 | w::x::l,h=>by
  intro c hc;have hc:c∈w++32::iP 32 (x::l):=hc
  rcases zbi.1 hc with h1 | h1
  .exact h w zae c h1
  rcases zan.1 h1 with rfl | h1
  .decide
  exact TV (λy hy=>h y (zag _ hy)) c h1
def bI (l:List aZ):Prop:=∀x∈l,fits x.n
theorem KN {l:List aZ} (h:(iH l).2=0):l.length<=64/\(∀x∈l,iE x=true)/\iH l=(iP 32 (l.map gF),0):=by
 unfold iH at h |-
 split at h
 .cases h
 rename_i h1
 split at h
 .cases h
 rename_i h2;rw[zab h1,zab h2];rw[Bool.not_eq_false,zbf]at h2;exact⟨oM,h2,rfl⟩
theorem TW {l:List aZ} (h:(iH l).2=0): ∀c∈(iH l).1,c≠10:=by
 obtain⟨_,h2,h3⟩:=KN h;rw[h3]
 exact TV λw hw=>by
  obtain⟨x,hx,rfl⟩:=zat.1 hw;exact adS (h2 x hx)
theorem N9 {l:List aZ} (h:(iH l).2=0) (hf:bI l):dL (iH l).1=(l,0):=by
 obtain⟨h1,h2,h3⟩:=KN h;rw[h3];exact(LH (λx hx=>⟨h2 x hx,hf x hx⟩) h1).2.1
theorem TY {s:L8} (h:gZ s=true):(∀c∈s,c≠10)/\(∀c∈s,c≠32):=by
 unfold gZ at h;simp only[zbr,zbf]at h;have key: ∀i:Fin 256,uD (UInt8.ofNat i.val)=true->UInt8.ofNat i.val≠10/\UInt8.ofNat i.val≠32:=by decide+kernel
 have H: ∀c:UInt8,uD c=true->c≠10/\c≠32:=λc hc=>by
  have:=key ⟨c.toNat,c.toNat_lt⟩;simp only[UInt8.ofNat_toNat]at this;exact this hc
 exact⟨λc hc=>(H c (h.2 c hc)).1,λc hc=>(H c (h.2 c hc)).2⟩
theorem xW (b t:L8):sN b (b++t)=some t:=by
 unfold sN;rw[List.take_left',zac rfl,List.drop_left']
 .rfl
 rfl
theorem T9 {b s t:L8} (h:sN b s=some t):s=b++t:=by
 unfold sN at h
 split at h
 .rename_i h1
  injection h with h
  rw[<-h]
  conv=>lhs;rw[<-zbs b.length s,h1]
 cases h
theorem WX:(dL lJ).2=4:=by rw[<-Nr];decide+kernel
theorem WY {l:List aZ} (h:(iH l).2=0) (hf:bI l):EM (uE l)=some l:=by
 unfold EM uE;rw[xW,zdk]
 by_cases h0:l=[]
 .rw[zac h0,zab dC,zac rfl,h0]
 rw[zab h0];have hb:=N9 h hf
 have h1:(iH l).1≠[]:=λe=>by
  rw[e]at hb;have :dL []=([],0):=rfl;rw[this]at hb;injection hb with hb
  exact h0 hb.symm
 have h2:(iH l).1≠lJ:=λe=>by
  rw[e]at hb;have:=WX;rw[hb]at this;cases this
 rw[zab h1,zab h2,hb,zac rfl]
theorem Ua {s t:L8} (h: ∀c∈s,c≠32):xS (s++[32]++t)=some (s,t):=by
 have hi:(s++[32]++t).idxOf? 32=some s.length:=by
  rw[List.idxOf?,zbp,List.findIdx?_append]
  have :s.findIdx? (· ==32)=none:=by
   rw[zdw];intro c hc;simpa using h c hc
  rw[this];simp[zgc]
 unfold xS;rw[hi,zda,zbp]
 congr 2
 .rw[List.take_left'];rfl
 rw[<-zbp];exact List.drop_left' sM
theorem adT {o:j4} (hb:Kl o=false) (hn:gZ o.name=true) (hf:bI o.steps):Km (rP o)=some o:=by
 have hbb: ¬((iH o.steps).2≠0\/(iH o.steps).1=[]):=of_decide_eq_false hb;have h0:(iH o.steps).2=0:=Classical.byContradiction λh=>hbb (.inl h);have h1:(iH o.steps).1≠[]:=λh=>hbb (.inr h);have hp:=N9 h0 hf
 have hs:o.steps≠[]:=λe=>by
  rw[e]at h1;exact h1 rfl
 unfold Km rP;have e:Wz++o.name++[32]++(iH o.steps).1=Wz++(o.name++[32]++(iH o.steps).1):=by simp only[zbp]
 rw[e,xW,zdk,Ua (TY hn).2,zdk];dsimp only;rw[hp,zac ⟨rfl,hs,hn⟩]
theorem WZ {g:Int} (h1: -1<=g) (h2:g<=1048576):uX (vJ g)=some g:=by
 unfold uX vJ;rw[xW,zdk]
 by_cases hg:g<0
 .rw[zac hg,zac rfl]
  congr 1
  omega
 rw[zab hg];obtain⟨n,rfl⟩:=zey (show 0<=g from oM);have hit:itoa (n:Int)=decDigits n:=by unfold itoa;rw[zab hg];rfl
 have iC:itoa (n:Int)≠lJ:=λe=>by
  rw[hit]at e;have:=oh n 110 (by rw[e];decide);exact zap this dC
 rw[zab iC,hit];unfold oG;rw[uN,zdk,zac ⟨rfl,oM⟩];rfl
theorem W9 {t:L8} (h:(dL t).2=0) (h0:t≠[]):(dL t).1≠[]:=λe=>by
 have ht:=X9 (s:=t) (l:=(dL t).1) (by rw[<-h]);rw[e]at ht;injection ht with ht
 exact h0 ht.symm
theorem Ob: ∀{cs:List j4} {g:Int},(∀o∈cs,Kl o=false/\gZ o.name=true/\bI o.steps)->jT (cs.map rP++[vJ g])=cs
 | [],g,_=>by
  have :Km (vJ g)=none:=by
   unfold Km sN;rw[zab]
   .rfl
   unfold vJ Kj Wz;simp
  show jT [vJ g]=[]
  unfold jT;rw[this]
 | o::cs,g,h=>by
  obtain⟨h1,h2,h3⟩:=h o zae;rw[zay,zbx];unfold jT;rw[adT h1 h2 h3];dsimp only;rw[Ob λx hx=>h x (zag _ hx)]
theorem sW {p:aW} (h:uW p=true):(1<=p.cols.length/\p.cols.length<=16/\ -1<=p.group/\p.group<=p.cols.length)/\∀o∈p.cols,gZ o.name=true:=by
 unfold uW at h;simp only[zbr,zbf,decide_eq_true_eq]at h;exact⟨h.1.1,λo ho=>(h.1.2 o ho).1⟩
theorem qw {p:aW}:BG p=true↔uW p=true/\(iH p.wh).2=0/\∀o∈p.cols,Kl o=false:=by
 unfold BG;simp only[zbr,zbf,decide_eq_true_eq,zdh,and_assoc]
theorem aaE {p:aW} (h:BG p=true): ∀w∈jY p,∀c∈w,c≠10:=by
 obtain⟨h1,h2,h3⟩:=qw.1 h;have hn:=(sW h1).2;have key: ∀{a b:L8},(∀c∈a,c≠10)->(∀c∈b,c≠10)->∀c∈a++b,c≠10:=λha hb c hc=>(zbi.1 hc).elim (ha c) (hb c);intro w hw;unfold jY at hw
 rcases zan.1 hw with rfl | hw
 .unfold uE
  refine key dC ?_
  split
  .decide
  exact TW h2
 rcases zbi.1 hw with hw | hw
 .obtain⟨o,ho,rfl⟩:=zat.1 hw
  have hb: ¬((iH o.steps).2≠0\/(iH o.steps).1=[]):=of_decide_eq_false (h3 o ho);unfold rP;exact key (key (key dC (TY (hn o ho)).1) dC) (TW (Classical.byContradiction λh=>hb (.inl h)))
 rw[zar.1 hw];unfold vJ;refine key dC ?_
 split
 .decide
 exact KM _
theorem aaF {p:aW} (h:BG p=true) (hw:bI p.wh) (hc: ∀o∈p.cols,bI o.steps) (hl:(rV (jY p)).length<=1048576):pI (rV (jY p))=(p,0,0):=by
 obtain⟨h1,h2,h3⟩:=qw.1 h;obtain⟨⟨n1,n2,n3,n4⟩,hn⟩:=sW h1;have hlen:(jY p).length=p.cols.length+2:=by unfold jY;simp
 have hcs:jT (((jY p).take (jY p).length).drop 1)=p.cols:=by
  rw[zbo];exact Ob λo ho=>⟨h3 o ho,hn o ho,hc o ho⟩
 have hg:(jY p).getD (1+p.cols.length) []=vJ p.group:=by
  unfold jY;rw[zak,zgf,zch,zbv sM];simp
 unfold pI;rw[zab oM,MS (aaE h)];dsimp only;rw[zac rfl,zab oM];have VN:(jY p).getD 0 []=uE p.wh:=rfl;rw[VN,WY h2 hw];dsimp only;rw[hcs,zab oM,hg,WZ n3 oM];dsimp only;rw[zab oM,zab (by show ¬BG p=false;rw[h];decide)]
theorem GJ (sep:UInt8): ∀s:L8,(bY sep s).length=s.count sep+1
 | []=>rfl
 | c::l=>by
  have ih:=GJ sep l;unfold bY
  split
  .rename_i h;subst h;simp[ih]
  rename_i h
  split
  .rename_i w ws hw
   rw[hw]at ih;rw[List.count_cons_of_ne (by simpa using h)];simpa using ih
  rename_i hw;rw[hw]at ih;simp at ih
attribute [local irreducible] FW FL FG FGn fZ gG cO gW Qfn Gives
def xX (g:Int) (i:Nat):Nat:=if 0<=g/\g<i then 1 else 0
theorem aaG {α:Type} {l:List α} {i:Nat} {o:α} (h:l[i]? =some o):l.drop i=o::l.drop (i+1):=by
 have bH:=gN h;rw[zbn bH];rw[zaa bH]at h;injection h with h
 rw[h]
section
variable {w:Wd}
theorem aaH {cols:List bF} {p:aW} {vc vp:Value} (hc:aQ w vc aX 7 cols) (hp:ji w vp p) (Jk:bI p.wh) (Dr: ∀o∈p.cols,bI o.steps) (hn:p.cols.length<=1000000) (hT:gQ w):
    aY Tryz.prog 45 [vc,vp] w λv w'=>∃x,v=.tuple #[x,I (dB cols p).2]/\True/\Turn noB (bJ 54 7 aX x (dB cols p).1) w w':=by
  have dS:=hp;obtain⟨vw,vq,rfl,hw,r,hr,iI⟩:=hp;obtain⟨A,m,rfl,⟨hm,qX⟩,hA⟩:=hr;have BD:=iI.len;have H:=Sep.aJ w;obtain⟨res,au⟩: ∃res,res=dB cols p:=⟨_,rfl⟩;rw[<-au];unfold dB at au;obtain⟨C,n,rfl,⟨hwn,aoA⟩,hC⟩:=id hw;refine dF Tryz.func45 rfl rfl rfl rfl ?_;refine Sr (cB H (cs:=[.slice C p.wh.length n,.slice A r.length m,I p.group]) rfl (h:=λb3 _ k _=>?_));refine Zb3 ?_;refine aD k (TT (dS.keep k.kept) oM) (h:=λ_ k _=>?_);refine Vv (Gives.not rfl) (Qn ?_);refine Cd rfl (λS=>?_) (λS=>?_)
  . rw[zac (by simpa using S)]at au
    refine Zb2 ?_;exact⟨_,by rw[au];rfl,trivial,by rw[au];exact(Sep.nE k 54 7 aX).first.turn⟩
  rw[zab (by simpa using S)]at au;have aoB:p.cols.length<=16:=(sW (by simpa using S)).1.2.1;refine Sk (fB (λ_:Unit=>[(0,vc),(3,av b3)]) (λ_ w'=>res=zi cols p.group 0 p.cols []/\Sep w noB [blk b3 [.slice C p.wh.length n,.slice A r.length m,I p.group] 26] w') ?_ ?_)
  . refine Za4 ?_
    refine Qn (Cp rfl (λS=>?_) (λS=>?_))
    . have iC:p.wh≠[]:=λe=>by rw[e]at S;exact zap S dC
      refine Zb3 ?_;refine aD k (Me (hc.keep k.kept) (hw.keep k.kept) Jk (hT.keep k.kept).utf) (h:=λ_ S _=>?_);refine Zb3 ?_;refine aO S (h:=λb6 _ S _=>?_);refine ak S (h:=λ_ S=>?_);refine Za4 ?_;refine Qn (Cp rfl (λa=>?_) (λa=>?_))
      . rw[zac ⟨iC,a⟩]at au
        refine Za3 ?_;refine Qn (dX (bM (jR (lT (hR:=?_)))));exact⟨_,by rw[au];rfl,trivial,by rw[au];exact(Sep.nE S 54 7 aX).first.turn⟩
      rw[zab (λh=>a h.2)]at au;refine Za4 ?_;refine Qn (Cp rfl (λa=>?_) (λa=>?_))
      . rw[zac ⟨iC,a⟩]at au
        refine Za2 ?_;refine Qn (dX (bM (jR (lT (hR:=?_)))));exact⟨_,by rw[au];rfl,trivial,by rw[au];exact(Sep.nE S 54 7 aX).first.turn⟩
      rw[zab (λh=>a h.2)]at au;refine Zb0 ?_;exact aA () tR ⟨au,S.dA⟩
    have he:p.wh=[]:=zbe oM;rw[zab (λh=>h.1 he),zab (λh=>h.1 he)]at au;refine Zb0 ?_;exact aA () tR ⟨au,k⟩
  rintro _ τ a ⟨hres2,a⟩;simp only[cK,like,aS,bK];refine Sr (aO a (h:=λb8 _ a _=>?_));refine Nx (Vv (Gives.makeFunc (fs:=[]) (us:=[]) (cs:=[.tmp 8]) rfl rfl) (Zb1 ?_));refine Vb (aM oF) ?_;refine aO a (h:=λb10 _ a _=>?_);refine ak a (h:=λa S=>?_);refine Zb4 ?_
  have k:Mw.Sep w noB [GI b8 [],blk b10 (aM oF) 50,blk b3 [.slice C p.wh.length n,.slice A r.length m,I p.group] 26] a:=by
    have h1:=(Sep.nE (S.aL) 54 7 aX).aL;exact Sep.uq (p:=λv=>star (blk b8 [v] 22) (bJ 54 7 aX v [])) _ (Sep.bD h1)
  refine aR (λx:Nat×List bF=>[(0,vc),(3,av b3),(8,av b8),(9,.func (.func 80) #[] #[av b8]),(10,av b10),(40,.slice A r.length m),(41,I r.length),(42,I x.1)]) (λx w'=>(x.1<=r.length/\x.2.length=x.1+xX p.group x.1/\zi cols p.group x.1 (p.cols.drop x.1) x.2=res)/\Sep w noB [GI b8 x.2,blk b10 (aM oF) 50,blk b3 [.slice C p.wh.length n,.slice A r.length m,I p.group] 26] w') (λx _=>r.length-x.1) (0,[]) tR ⟨⟨zaq _,by dsimp only;unfold xX;rw[zab oM];rfl,hres2.symm⟩,k⟩ (λx τ _ hI=>?_);obtain⟨i,acc⟩:=x;obtain⟨⟨hi,hal,fU⟩,k⟩:=hI;dsimp only at hi hal fU k;have ZC:xX p.group i<=1:=by unfold xX;split<;>omega
  have arE:acc.length<=i+1:=oM
  try simp only[cK,like,aS]
  refine Za1 ?_;refine Qn (dW (Cp rfl (λS=>?_) (λS=>?_)))
  . have bH:i<p.cols.length:=oM
    obtain⟨vx,hx,Ga⟩:=iI.at bH;obtain⟨Ax,cx,rfl,_⟩:=id Ga;have xJ:p.cols[i]? =some p.cols[i]:=zaa bH;obtain⟨o,ho⟩: ∃o,o=p.cols[i]:=⟨_,rfl⟩;rw[<-ho]at hx Ga xJ;have hof:=Dr o (zam xJ);rw[aaG xJ,zi]at fU;unfold xX at hal;refine Zb3 ?_;refine aO k (h:=λb12 _ S _=>?_);refine Am ?_;refine ak S (h:=λ_ S=>?_);refine Zb3 ?_;refine aD S (Me (hc.keep S.kept) (Ga.keep S.kept) hof (hT.keep S.kept).utf) (h:=λ_ S _=>?_);refine Zb3 ?_;refine aO S (h:=λb13 _ S _=>?_);refine ak S (h:=λ_ S=>?_);refine Za3 ?_;refine Qn (Cp rfl (λa=>?_) (λa=>?_))
    . rw[zac a]at fU
      refine Zb3 ?_;exact⟨_,by rw[<-fU];rfl,trivial,by rw[<-fU];exact(Sep.nE S 54 7 aX).first.turn⟩
    rw[zab a]at fU;refine Sk (fB (λ_:Unit=>[(0,vc),(3,av b3),(8,av b8),(9,.func (.func 80) #[] #[av b8]),(10,av b10),(11,I i),(12,av b12),(13,av b13),(40,.slice A r.length m),(41,I r.length),(42,I i)]) (λ_ w'=>Sep w noB [blk b13 (aM (iA cols o.steps).1) 50,blk b12 (dU (o.name,.slice Ax o.steps.length cx)) 94,GI b8 (if(i:Int)=p.group then acc++[EL ((i:Int)+1) mW oF]else acc),blk b10 (aM oF) 50,blk b3 [.slice C p.wh.length n,.slice A r.length m,I p.group] 26] w') ?_ ?_)
    . refine Za4 ?_
      refine Qn (Cp rfl (λa=>?_) (λa=>?_))
      . have hig:(i:Int)=p.group:=a
        refine Zb2 ?_;obtain⟨F0,RA,gH,aI⟩:=S.focus At2;refine dP (vals:=[str mW,agg (aM oF)]) rfl (vR mW oF RA oM) rfl rfl (λv' _ hv=>?_);obtain⟨rfl,bZ,F1,hq,gT⟩:=hv;have b:=aI _ F1 _ bZ hq gT;rw[zab oM]at hal;have hid:((acc.length+1:Nat):Int)=(i:Int)+1:=oM;rw[hid]at b;refine Zb0 ?_;exact aA () tR (by rw[zac hig];exact b)
      have hig: ¬(i:Int)=p.group:=a;refine Zb0 ?_;exact aA () tR (by rw[zab hig];exact S)
    intro _ τ b b;simp only[cK,like,aS];refine Zb4 ?_;refine aF (t:=67) rfl (λa=>?_) (λa=>?_)
    . refine Za5 ?_
      refine Qn (Cp rfl (λS=>?_) (λS=>?_))
      . have hgi:0<=p.group/\p.group<=i:=⟨oM,S⟩
        rw[zac hgi]at fU;refine Za3 ?_;refine Qn (Cp rfl (λc=>?_) (λc=>?_))
        . rw[zac c]at fU
          refine Zb2 ?_;exact⟨_,by rw[<-fU];rfl,trivial,by rw[<-fU];exact(Sep.nE b 54 7 aX).first.turn⟩
        rw[zab c]at fU;refine Zb1 ?_;refine ak b (h:=λ_ c=>?_);refine Zb4 ?_;obtain⟨acc2,aiB⟩: ∃acc2,acc2=if(i:Int)=p.group then acc++[EL ((i:Int)+1) mW oF]else acc:=⟨_,rfl⟩
        rw[<-aiB]at c fU
        have arF:acc2.length=i+1:=by
          rw[aiB]
          split
          . rw[zab oM]at hal
            rw[zad,zah];omega
          rw[zac oM]at hal;omega
        have hid:((acc2.length+1:Nat):Int)=(i:Int)+2:=oM;obtain⟨F0,RA,gH,aI⟩:=c.focus At2;refine dP (vals:=[str o.name,agg (aM oF)]) rfl (vR o.name _ RA oM) rfl rfl (λv' _ hv=>?_);obtain⟨rfl,bZ,F1,hq,gT⟩:=hv;have c:=aI _ F1 _ bZ hq gT;rw[hid]at c;refine Zb2 ?_;exact aj (i+1,acc2++[EL ((i:Int)+2) o.name oF]) tR ⟨⟨dO,by dsimp only;rw[zad,zah];unfold xX;rw[zac oM];omega,fU⟩,c.dA.dA⟩ dO
      have hgi: ¬(0<=p.group/\p.group<=i):=λh=>S h.2;rw[zab hgi]at fU;refine Zb4 ?_;rw[zab (show ¬(i:Int)=p.group from λe=>hgi ⟨oM,oM⟩)]at b;rw[zab oM]at hal;have hid:((acc.length+1:Nat):Int)=(i:Int)+1:=oM;obtain⟨F0,RA,gH,aI⟩:=b.focus At2;refine dP (vals:=[str o.name,agg (aM (iA cols o.steps).1)]) rfl (vR o.name _ RA oM) rfl rfl (λv' _ hv=>?_);obtain⟨rfl,bZ,F1,hq,gT⟩:=hv;have c:=aI _ F1 _ bZ hq gT;rw[hid]at c;refine Zb2 ?_;exact aj (i+1,acc++[EL ((i:Int)+1) o.name (iA cols o.steps).1]) tR ⟨⟨dO,by dsimp only;rw[zad,zah];unfold xX;rw[zab oM];omega,fU⟩,c.dA.dA⟩ dO
    have hgi: ¬(0<=p.group/\p.group<=i):=λh=>a h.1;rw[zab hgi]at fU;refine Zb5 ?_;rw[zab (show ¬(i:Int)=p.group from λe=>hgi ⟨oM,oM⟩)]at b;rw[zab oM]at hal;have hid:((acc.length+1:Nat):Int)=(i:Int)+1:=oM;obtain⟨F0,RA,gH,aI⟩:=b.focus At2;refine dP (vals:=[str o.name,agg (aM (iA cols o.steps).1)]) rfl (vR o.name _ RA oM) rfl rfl (λv' _ hv=>?_);obtain⟨rfl,bZ,F1,hq,gT⟩:=hv;have c:=aI _ F1 _ bZ hq gT;rw[hid]at c;refine Zb2 ?_;exact aj (i+1,acc++[EL ((i:Int)+1) o.name (iA cols o.steps).1]) tR ⟨⟨dO,by dsimp only;rw[zad,zah];unfold xX;rw[zab oM];omega,fU⟩,c.dA.dA⟩ dO
  have oQ:i=r.length:=oM;rw[oQ,BD,zfd,zi]at fU;rw[oQ,BD]at hal;unfold xX at hal;refine Za6 ?_;refine Qn (Cp rfl (λc=>?_) (λc=>?_))
  . rw[zac oM]at fU
    rw[zab oM]at hal;refine Zb2 ?_;have hid:((acc.length+1:Nat):Int)=p.group+1:=oM;obtain⟨F0,RA,gH,aI⟩:=k.focus At0;refine dP (vals:=[str mW,agg (aM oF)]) rfl (vR mW oF RA oM) rfl rfl (λv' _ hv=>?_);obtain⟨rfl,bZ,F1,hq,gT⟩:=hv;have c:=aI _ F1 _ bZ hq gT;rw[hid]at c;refine Nx ?_;have a:=c;unfold GI at a;obtain⟨v8,a⟩:=a.ex0;have a:=a.bR;refine Ld a ?_;refine Zb2 ?_;exact⟨v8,by rw[<-fU];rfl,trivial,by rw[<-fU];exact a.aL.first.turn⟩
  rw[zab oM]at fU;refine Zb0 ?_;have a:=k;unfold GI at a;obtain⟨v8,a⟩:=a.ex0;have a:=a.bR;refine Ld a ?_;refine Zb2 ?_;exact⟨v8,by rw[<-fU];rfl,trivial,by rw[<-fU];exact a.aL.first.turn⟩
end
section
variable {w:Wd}
theorem aaI {p:aW} {v:Value} (hp:ji w v p) (hn:p.cols.length<=100) (Ai:p.wh.length<=1000) (ZJ: ∀o∈p.cols,o.steps.length<=1000):
    aY Tryz.prog 34 [v] w λv w'=>∃x,v=x/\True/\Turn noB (bJ 3 1 intCells x (Kk p)) w w':=by
  obtain⟨vw,vc,rfl,hw,r,hr,iI⟩:=hp;obtain⟨A,m,rfl,⟨hm,qX⟩,hA⟩:=hr;have BD:=iI.len;have H:=Sep.aJ w;rw[<-Qw];refine dI Tryz.func34 rfl rfl rfl rfl ?_;refine Sr (cB H (cs:=[vw,.slice A r.length m,I p.group]) rfl (h:=λb1 _ k _=>?_));refine Zb3 ?_;refine dn k (Vz (hw.keep k.kept) Ai) (h:=λx0 k _ S _=>?_);refine Zb5 ?_
  have a:Mw.Sep w noB [bJ 3 1 intCells x0 (j6 p.wh []),blk b1 [vw,.slice A r.length m,I p.group] 26] k:=by
    unfold j6;rw[zem,zci];exact S
  refine aR (λx:Nat×Value=>[(1,av b1),(3,x.2),(10,.slice A r.length m),(11,I r.length),(12,I x.1)]) (λx w'=>x.1<=r.length/\Sep w noB [bJ 3 1 intCells x.2 (j6 p.wh (p.cols.take x.1)),blk b1 [vw,.slice A r.length m,I p.group] 26] w') (λx _=>r.length-x.1) (0,x0) tR ⟨zaq _,a⟩ (λx τ _ hI=>?_);obtain⟨i,v0⟩:=x;obtain⟨hi,a⟩:=hI;dsimp only at hi a;obtain⟨B,cb,rfl,Po,hB⟩:=Sep.dQ a At0;have Rt:=WU (wh:=p.wh) (m:=1000) (cols:=p.cols.take i) λo ho=>ZJ o (zcy ho);rw[zaj,zcv oM]at Rt
  try simp only[cK,like,aS,bK]
  refine Za1 ?_;refine Qn (dW (Cp rfl (λS=>?_) (λS=>?_)))
  . have bH:i<p.cols.length:=oM
    obtain⟨vx,hx,Ga⟩:=iI.at bH;obtain⟨Ax,cx,rfl,_⟩:=id Ga;have xJ:p.cols[i]? =some p.cols[i]:=zaa bH;obtain⟨o,ho⟩: ∃o,o=p.cols[i]:=⟨_,rfl⟩;rw[<-ho]at hx Ga xJ;have hol:=ZJ o (zam xJ);have hul:=Fe o.steps;have yY:j6 p.wh (p.cols.take (i+1))=j6 p.wh (p.cols.take i)++qR o.steps:=by rw[zbd,xJ];exact TU _ _ _
    refine Zb2 ?_;refine aO a (h:=λb5 _ S _=>?_);refine ak S (h:=λ_ S=>?_);refine Zb3 ?_;refine dn S (Vz (Ga.keep S.kept) hol) (h:=λx2 _ _ S _=>?_);obtain⟨B2,c2,rfl,k,hB2⟩:=Sep.dQ S At0;refine oO S At2 hB2 (by unfold maxLen;omega) oM (cells_one (λ_=>rfl) _) (h:=?_);intro v2 k k;rw[<-yY]at k;refine Zb3 ?_;exact aj (i+1,v2) tR ⟨dO,k.dA.dA⟩ dO
  have oQ:i=r.length:=oM;rw[oQ,zax oM]at a Rt ⊢;refine Zb1 ?_;obtain⟨F0,dS,gH,aI⟩:=a.focus At0;refine aK (Zw dS oM) rfl rfl (λv' _ hv=>?_);obtain⟨rfl,bZ,F1,hq,hs⟩:=hv;have k:=aI _ F1 _ bZ hq hs;have Bz:((j6 p.wh p.cols).mergeSort λx y=>decide (x<=y)).length=(j6 p.wh p.cols).length:=zfi _;rw[<-Bz]at k;refine Zb1 ?_;obtain⟨F0,dS,gH,aI⟩:=k.focus At0;refine aK (Mf dS oM) (by rw[Bz];rfl) rfl (λv' _ hv=>?_);obtain⟨rfl,bZ,F1,hq,hs⟩:=hv;have k:=aI _ F1 _ bZ hq hs;refine Zb1 ?_;exact⟨_,rfl,trivial,k.first.turn⟩
end
open Go.Proofs.Tryz
theorem BZ (sep:UInt8): ∀l:List (L8),l≠[]->iP sep l++[sep]=l.flatMap (· ++[sep])
 | [],h=>zap rfl h
 | [w],_=>by simp[iP]
 | w::x::l,_=>by
  have ih:=BZ sep (x::l) sM;show(w++sep::iP sep (x::l))++[sep]=_
  rw[zbc,<-ih];simp
theorem KO {l:List aZ} (h:(iH l).2=0) (hf:bI l):(iH l).1.length<=400000:=by
 obtain⟨h1,h2,h3⟩:=KN h;rw[h3]
 have:=zW 32 (k:=6146) (ws:=l.map gF) λw hw=>by
  obtain⟨x,ZB,rfl⟩:=zat.1 hw;exact Vk (h2 x ZB) (hf x ZB)
 rw[zaf]at this;show(iP 32 (l.map gF)).length<=_
 omega
theorem JK {o:j4}:Kl o=true↔((iH o.steps).2≠0\/(iH o.steps).1=[]):=by unfold Kl;rw[decide_eq_true_iff]
section
variable {w:Wd}
theorem Qx (n:Int) (hn:fits n) (hT:gQ w):Rk prog 117 [I n] w (str (Lib.itoa n)):=
 Calls.mono (Tryz.strconv_Itoa n hn.1 hn.2 w hT.pow) λe w' he=>by
  obtain⟨rfl,k,os,rfl⟩:=he;exact⟨rfl,Nl w k os⟩
theorem adU (sep:UInt8) {l:List (L8)} {v:Value} (hr:aQ w v fT 1 l) (hl:l.length<=1000000) (hlen:(iP sep l).length<=140737488355328):Rk prog 120 [v,str [sep]] w (str (iP sep l)):=by
 obtain⟨A,c,rfl,⟨hc,hc'⟩,hR⟩:=hr
 by_cases h0:l=[]
 .subst h0
  exact Calls.mono (Tryz.strings_Join_none A c ⟨#[sep]⟩ w) λe w' he=>by
   obtain⟨rfl,rfl⟩:=he;exact⟨rfl,Kept.refl _ _⟩
 have VH:0<l.length:=zez.2 h0;obtain⟨ad,rfl⟩:=hR.addr VH;obtain⟨x0,hx0⟩:=get_some VH;obtain⟨ad',e0,H⟩:=hR.cell (f:=0) hx0 rfl;injection e0 with e0;subst e0
 have F9:=World.cell?_spot H;obtain⟨bk,o,sp⟩:=ad;have ajR:sp=none:=F9;subst ajR
 have hbk:bk<w.heap.size:=by
  refine Classical.byContradiction λhn=>?_;unfold World.cell? at H;rw[zdd (by show w.heap.size<=bk;omega)]at H;cases H
 have Bz:(l.map λs:L8=>(⟨s.toArray⟩:ByteArray)).map (·.data.toList)=l:=by
  rw[zdt];exact(zcw λs _=>rfl).trans (List.map_id l)
 have:=qA (Tryz.strings_Join bk o c (l.map λs=>⟨s.toArray⟩) ⟨#[sep]⟩ w (λj x hj=>by
  rw[zcr]at hj;obtain⟨s,hs,rfl⟩:=zav.1 hj;obtain⟨ad',e1,hcs⟩:=hR.cell (f:=0) hs rfl;injection e1 with e1;subst e1
  rw[Nat.mul_one,zff,Addr.add_lit]at hcs;exact hcs) hbk (by rw[zaf];omega) (by rw[zaf];exact hc) (by rw[Bz];show(Lib.join l [sep]).length<=_;rw[join_eq];exact hlen))
 rw[Bz,zaf]at this;have e:Lib.join l [sep]=iP sep l:=join_eq sep l;rw[<-e];exact this
theorem aaJ {p:aW} {v:Value} (hp:ji w v p) (Jk:bI p.wh) (Dr: ∀o∈p.cols,bI o.steps) (hn:p.cols.length<=1000000) (hT:gQ w):
    Rk prog 77 [v] w (.tuple #[str (Gr p).1,I (Gr p).2]):=by
  have dS:=hp;obtain⟨vw,vc,rfl,hw,r,hr,iI⟩:=hp;obtain⟨A,m,rfl,⟨hm,qX⟩,hA⟩:=hr;obtain⟨C,n,rfl,⟨hwn,aoA⟩,hC⟩:=id hw;have BD:=iI.len;have H:=Sep.aJ w;obtain⟨res,au⟩: ∃res,res=Gr p:=⟨_,rfl⟩;rw[<-au];unfold Gr at au;have nI:BG p≠true->res=([],2):=λh=>by rw[au,zac (by simpa using h)]
  refine dI func77 rfl rfl rfl rfl ?_;refine Sr (cB H (cs:=[.slice C p.wh.length n,.slice A r.length m,I p.group]) rfl (h:=λb1 _ S _=>?_));refine Zb3 ?_;refine aD S (TT (dS.keep S.kept) hn) (h:=λ_ S _=>?_);refine Vv (Gives.not rfl) (Qn ?_);refine Cd rfl (λa=>?_) (λa=>?_)
  . have fu:res=([],2):=nI λh=>by have h1:=(qw.1 h).1;rw[h1]at a;cases a
    refine Zb2 ?_;exact⟨by rw[fu];rfl,S.kept⟩
  have ZI:uW p=true:=by simpa using a
  obtain⟨⟨Jz,aoB,hg1,hg2⟩,afX⟩:=sW ZI;refine Zb2 ?_;refine aD S (RP (hw.keep S.kept) Jk (hT.keep S.kept)) (h:=λ_ a _=>?_);refine Za7 ?_;refine Qn (Cp rfl (λS=>?_) (λS=>?_))
  . have fu:res=([],2):=nI λh=>S (qw.1 h).2.1
    refine Zb2 ?_;exact⟨by rw[fu];rfl,a.kept⟩
  have htw:(iH p.wh).2=0:=oM;have hwl:=KO htw Jk;refine Sk (fB (λ_:Unit=>[(1,av b1),(4,str (if p.wh=[]then lJ else(iH p.wh).1))]) (λ_ w'=>Sep w noB [blk b1 [.slice C p.wh.length n,.slice A r.length m,I p.group] 26] w') ?_ ?_)
  . refine Za4 ?_
    refine Qn (Cp rfl (λS=>?_) (λS=>?_))
    . have he:p.wh=[]:=zbe oM
      refine Zb1 ?_;exact aA () ⟨rfl,by rw[zac he];rfl,trivial⟩ a
    have he: ¬p.wh=[]:=λe=>S (by rw[e];rfl);refine Zb0 ?_;exact aA () ⟨rfl,by rw[zab he];rfl,trivial⟩ a
  intro _ τ S S;have h4n:lJ.length=4:=rfl;have hq4:(if p.wh=[]then lJ else(iH p.wh).1).length<=400000:=by split<;>omega
  simp only[cK,like,aS,bK];refine Zb2 ?_;refine Bs S ([uE p.wh].flatMap fT) (λbs S a _=>?_);have a:=am1 a;refine Zb5 ?_;have b:Mw.Sep w noB [bJ 9 1 fT (.slice (some ⟨bs,0,none⟩) 1 1) (uE p.wh::(p.cols.take 0).map rP),blk b1 [.slice C p.wh.length n,.slice A r.length m,I p.group] 26] S:=a;refine aR (λx:Nat×Value=>[(1,av b1),(6,x.2),(31,.slice A r.length m),(32,I r.length),(33,I x.1)]) (λx w'=>(x.1<=r.length/\∀(j:Nat) o,j<x.1->p.cols[j]? =some o->Kl o=false)/\Sep w noB [bJ 9 1 fT x.2 (uE p.wh::(p.cols.take x.1).map rP),blk b1 [.slice C p.wh.length n,.slice A r.length m,I p.group] 26] w') (λx _=>r.length-x.1) (0,_) tR ⟨⟨zaq _,λj o hj=>zap hj (zej j)⟩,b⟩ (λx τ _ hI=>?_);obtain⟨i,v0⟩:=x;obtain⟨⟨hi,Aj⟩,b⟩:=hI;dsimp only at hi Aj b;have Bz:(uE p.wh::(p.cols.take i).map rP).length=i+1:=by rw[zal,zaf,zaj];omega
  try simp only[cK,like,aS]
  refine Za1 ?_;refine Qn (dW (Cp rfl (λa=>?_) (λa=>?_)))
  . have bH:i<p.cols.length:=oM
    obtain⟨vx,hx,Ga⟩:=iI.at bH;obtain⟨Ax,cx,rfl,_⟩:=id Ga;have xJ:p.cols[i]? =some p.cols[i]:=zaa bH;obtain⟨o,ho⟩: ∃o,o=p.cols[i]:=⟨_,rfl⟩;rw[<-ho]at hx Ga xJ;have hmo:=zam xJ;have yY:uE p.wh::(p.cols.take (i+1)).map rP=(uE p.wh::(p.cols.take i).map rP)++[rP o]:=by rw[zbd,xJ,zau];rfl
    refine Zb2 ?_;refine aO b (h:=λb8 _ a _=>?_);refine ak a (h:=λ_ a=>?_);refine Zb2 ?_;refine aD a (RP (Ga.keep a.kept) (Dr o hmo) (hT.keep a.kept)) (h:=λ_ a _=>?_);refine Zb8 ?_;refine aF (t:=45) rfl (λS=>?_) (λS=>?_)
    . have rM:Kl o=true:=JK.2 (.inl S)
      refine Zb3 ?_;have fu:res=([],2):=nI λh=>by have h1:=(qw.1 h).2.2 o hmo;rw[h1]at rM;cases rM
      exact⟨by rw[fu];rfl,a.kept⟩
    refine Za3 ?_;refine Qn (Cp rfl (λS=>?_) (λS=>?_))
    . have rM:Kl o=true:=JK.2 (.inr S)
      refine Zb2 ?_;have fu:res=([],2):=nI λh=>by have h1:=(qw.1 h).2.2 o hmo;rw[h1]at rM;cases rM
      exact⟨by rw[fu];rfl,a.kept⟩
    have eH:Kl o=false:=by
      rw[<-zdg];intro h
      rcases JK.1 h with h | h
      . omega
      exact S h
    have hts:(iH o.steps).2=0:=oM;have arG:=KO hts (Dr o hmo)
    have hnl:o.name.length<=32:=by
      have h5:=afX o hmo;unfold gZ at h5;simp only[zbr,decide_eq_true_eq]at h5;omega
    refine Zb7 ?_;refine Bs a ([rP o].flatMap fT) (λbs _ S _=>?_);refine gP S (news:=[rP o]) At1 (by rw[Bz];unfold maxLen;simp;omega) (by rw[Bz];simp;omega) (cells_one (λ_=>rfl) _) (h:=?_);intro v2 S S;rw[<-yY]at S;refine Zb3 ?_;exact aj (i+1,v2) tR ⟨⟨dO,λj y hj hy=>by
    by_cases e:j=i
    . subst e;rw[xJ]at hy;injection hy with hy;rw[<-hy];exact eH
    exact Aj j y (by dsimp only at hj;omega) hy⟩,S.dA⟩ dO
  have oQ:i=r.length:=oM;rw[oQ,zax oM]at b Bz
  have jN: ∀o∈p.cols,Kl o=false:=λo ho=>by
    obtain⟨j,hj⟩:=zdc ho;exact Aj j o (by have:=gN hj;omega) hj
  have Ev:BG p=true:=qw.2 ⟨ZI,htw,jN⟩;rw[zab (by rw[Ev];decide)]at au;refine Za1 ?_;refine Qn (fB (λ_:Unit=>[(6,v0),(11,str (if p.group<0 then lJ else itoa p.group))]) (λ_ w'=>Sep w noB [bJ 9 1 fT v0 (uE p.wh::p.cols.map rP),blk b1 [.slice C p.wh.length n,.slice A r.length m,I p.group] 26] w') ?_ ?_)
  . refine Za3 ?_
    refine Qn (Cp rfl (λS=>?_) (λS=>?_))
    . have hg: ¬p.group<0:=oM
      refine Zb2 ?_;refine aD b (Qx p.group ⟨oM,oM⟩ (hT.keep b.kept)) (h:=λ_ S _=>?_);refine Zb1 ?_;exact aA () ⟨rfl,by rw[zab hg];rfl,trivial⟩ S
    have hg:p.group<0:=oM;refine Zb0 ?_;exact aA () ⟨rfl,by rw[zac hg];rfl,trivial⟩ b
  intro _ τ S S;have h6:=itoa_length_le p.group oM oM;have hq6:(if p.group<0 then lJ else itoa p.group).length<=30:=by split<;>omega
  simp only[cK,like,aS];refine Zb3 ?_;refine Bs S ([vJ p.group].flatMap fT) (λbs2 _ S _=>?_);refine gP S (news:=[vJ p.group]) At0 (by rw[Bz];unfold maxLen;simp;omega) (by rw[Bz];simp;omega) (cells_one (λ_=>rfl) _) (h:=?_);intro v2 S S;have hlp:(uE p.wh::p.cols.map rP)++[vJ p.group]=jY p:=rfl;rw[hlp]at S;have Jj:(jY p).length<=1002:=by unfold jY;rw[zal,zad,zaf,zah];omega
  have hlj:(iP 10 (jY p)).length<=(400100+1)*(jY p).length:=zW 10 (k:=400100) λx hx=>by
    unfold jY at hx
    rcases zan.1 hx with rfl | hx
    . unfold uE Qd
      rw[zad];have h4:lJ.length=4:=rfl
      split<;>simp only[zal,zcu]<;>omega
    rcases zbi.1 hx with hx | hx
    . obtain⟨o,ho,rfl⟩:=zat.1 hx
      have h1:=jN o ho;have h2:(iH o.steps).2=0:=Classical.byContradiction λh=>by rw[JK.2 (.inl h)]at h1;cases h1
      have h3:=KO h2 (Dr o ho);have h5:=afX o ho;unfold gZ at h5;simp only[zbr,decide_eq_true_eq]at h5;unfold rP Wz;simp only[zad,zal,zcu];omega
    rw[zar]at hx;subst hx;unfold vJ Kj;rw[zad];have h4:lJ.length=4:=rfl;have h6:=itoa_length_le p.group oM oM
    split<;>simp only[zal,zcu]<;>omega
  refine aD S (adU 10 (mY S At0) oM oM) (h:=λ_ S _=>?_);refine Zb3 ?_;exact⟨by rw[au];show Value.tuple #[str (iP 10 (jY p)++[10]),I 0]=_;rw[BZ 10 _ (by unfold jY;simp)];rfl,S.kept⟩
end
def Cb (b:Bool):L8:=if b=true then [116,114,117,101]else [102,97,108,115,101]
def vS (c:ay):L8:=Cb c.null++(32::(itoa c.n++(32::(itoa (c.s.length:Int)++(32::c.s)))))
def dV (k:List ay):L8:=k.flatMap vS
def fO (k:List ay):Prop:=∀c∈k,(-9223372036854775808<=c.n/\c.n<=9223372036854775807)/\c.s.length<=1000000
theorem AQ: ∀{a b x y:L8},(∀c∈a,c≠32)->(∀c∈b,c≠32)->a++32::x=b++32::y->a=b/\x=y
 | [],[],x,y,_,_,h=>by simpa using h
 | [],d::b,x,y,_,hb,h=>by
  simp only[zcb,zbx,List.cons.injEq]at h;exact zap h.1.symm (hb d zae)
 | c::a,[],x,y,ha,_,h=>by
  simp only[zcb,zbx,List.cons.injEq]at h;exact zap h.1 (ha c zae)
 | c::a,d::b,x,y,ha,hb,h=>by
  simp only[zbx,List.cons.injEq]at h;obtain⟨h1,h2⟩:=AQ (a:=a) (b:=b) (λz hz=>ha z (zag _ hz)) (λz hz=>hb z (zag _ hz)) h.2;exact⟨by rw[h.1,h1],h2⟩
theorem Ub (b:Bool): ∀c∈Cb b,c≠32:=by cases b<;>decide
theorem aaK {a b:Bool} (h:Cb a=Cb b):a=b:=by cases a<;>cases b<;>first | rfl | exact zap h dC
theorem Uc {a b:Int} (ha: -9223372036854775808<=a/\a<=9223372036854775807) (hb: -9223372036854775808<=b/\b<=9223372036854775807) (h:itoa a=itoa b):a=b:=by
 rw[<-uO ha.1 ha.2,h,uO hb.1 hb.2]
theorem Ud (c:ay) (x:L8):vS c++x≠[]:=by
 unfold vS Cb;cases c.null<;>simp
theorem aaL {c d:ay} {x y:L8} (hc:(-9223372036854775808<=c.n/\c.n<=9223372036854775807)/\c.s.length<=1000000) (hd:(-9223372036854775808<=d.n/\d.n<=9223372036854775807)/\d.s.length<=1000000)
    (h:vS c++x=vS d++y):c=d/\x=y:=by
  unfold vS at h;simp only[zbp,zbx]at h;obtain⟨h1,h2⟩:=AQ (Ub _) (Ub _) h;obtain⟨h3,h4⟩:=AQ (Bq _) (Bq _) h2;obtain⟨h5,h6⟩:=AQ (Bq _) (Bq _) h4;have hn:=Uc hc.1 hd.1 h3
  have hl:c.s.length=d.s.length:=by
    have:=Uc oM oM h5;omega
  obtain⟨h7,h8⟩:=List.append_inj h6 hl;refine⟨?_,h8⟩;have hb:=aaK h1;cases c;cases d;simp_all
theorem AU: ∀{a b:List ay},fO a->fO b->dV a=dV b->a=b
 | [],[],_,_,_=>rfl
 | [],d::b,_,_,h=>by
  unfold dV at h;rw[zem,zbc]at h;exact zap h.symm (Ud d _)
 | c::a,[],_,_,h=>by
  unfold dV at h;rw[zem,zbc]at h;exact zap h (Ud c _)
 | c::a,d::b,ha,hb,h=>by
  unfold dV at h;rw[zbc,zbc]at h;obtain⟨h1,h2⟩:=aaL (ha c zae) (hb d zae) h;rw[h1,AU (a:=a) (b:=b) (λz hz=>ha z (zag _ hz)) (λz hz=>hb z (zag _ hz)) h2]
theorem Oc (c:ay) (h:(-9223372036854775808<=c.n/\c.n<=9223372036854775807)/\c.s.length<=1000000):(vS c).length<=1000100:=by
 have h1:=zV h.1.1 h.1.2;have h2:=zV (n:=(c.s.length:Int)) oM oM;have h3:(Cb c.null).length<=5:=by cases c.null<;>decide
 unfold vS;simp only[zad,zal];omega
theorem Y0 {n:Int} (h: -9223372036854775808<=n/\n<=9223372036854775807):(itoa n).length<=20:=zV h.1 h.2
theorem Oe {k:List ay} (h:fO k):(dV k).length<=k.length*1000100:=by
 induction k with
 | nil=>exact zbk _
 | cons c k ih=>
  have h1:=ih λd hd=>h d (zag _ hd);have h2:=Oc c (h c zae);show(vS c++dV k).length<=_
  rw[zad,zal];omega
theorem Xa {k:List ay} {i:Nat} {c:ay} (h:k[i]? =some c):dV (k.take (i+1))=dV (k.take i)++vS c:=by
 unfold dV;rw[zbd,h,zby];simp
section
variable {w:Wd}
theorem Y1 {k:List ay} {v:Value} (hk:aQ w v ah 3 k) (hn:k.length<=64) (BM:fO k) (hT:gQ w):Rk Tryz.prog 408 [v] w (str (dV k)):=by
 obtain⟨A,m,rfl,⟨hm,qX⟩,hA⟩:=hk;have H:=Sep.aJ w;refine dI Tryz.func408 rfl rfl rfl rfl ?_;refine Zb1 ?_;refine aO H (h:=λb3 _ S _=>?_);have S:=Sep.ahB S;refine Zb3 ?_;refine aR (λi:Nat=>[(0,.slice A k.length m),(3,av b3),(6,.slice A k.length m),(7,I k.length),(8,I i)]) (λi w'=>i<=k.length/\Mw.Sep w noB [um b3 (dV (k.take i))] w') (λi _=>k.length-i) 0 tR ⟨zaq _,S⟩ (λi τ _ hI=>?_);obtain⟨hi,S⟩:=hI
 try simp only[cK,like,aS,bK]
 refine Za1 ?_;refine Qn (dW (Cp rfl (λa=>?_) (λa=>?_)))
 .have bH:i<k.length:=oM
  obtain⟨c,hc⟩:=get_some bH;have hcf:=BM c (zam hc);have VW:=Xa hc;have hl1:=Oe (k:=k.take i) λd hd=>BM d (zcy hd);have hl2:=Oc c hcf;have hl3:=Y0 hcf.1;have hl4:=Y0 (n:=(c.s.length:Int)) ⟨oM,oM⟩;rw[zaj,zcv hi]at hl1;have hbl:(Cb c.null).length<=5:=by unfold Cb;split<;>decide
  refine Zb2 ?_;refine aO S (h:=λb5 _ a _=>?_);refine ak a (h:=λ_ _=>?_);refine Qn (Ds (λa _ b=>?_));refine Zb2 ?_;refine Gp a 4 rfl rfl (λ_=>(Gives.uU rfl)) (Zb1 ?_);refine Gp a 9 rfl rfl (λ_=>(Gives.uU rfl)) (Zb2 ?_);refine Gp a 15 rfl rfl (λ_=>(Gives.uU rfl)) (Zb1 ?_);refine gI (v:=str (Cb c.null)) a 2 [(16,false),(15,true),(11,true),(10,false),(9,true),(5,false),(4,true)] b (aY.mono (BQ c.null) λu w' h=>⟨h.1,h.2▸Kept.refl _ _⟩) (h:=λ_ b _=>⟨sL,?_⟩);refine GS (Gn rfl (λ_=>(Gives.UZ rfl rfl (by simp only[zad,zal,zcu];omega))) ?_);refine gI a 6 [(3,true),(16,false),(15,true),(11,true),(10,false),(9,true)] b (xQ c.n hcf.1 (hT.keep b.kept)) (h:=λ_ b _=>⟨sL,?_⟩);refine GS (Gn rfl (λ_=>(Gives.UZ rfl rfl (by simp only[zad,zal,zcu];omega))) ?_);refine GS (Gn rfl (λ_=>(Gives.UZ rfl rfl (by simp only[zad,zal,zcu];omega))) ?_);refine gI a 12 [(8,true),(7,true),(3,true),(16,false),(15,true)] b (Qx (c.s.length:Int) (by unfold fits;omega) (hT.keep b.kept)) (h:=λ_ b _=>⟨sL,?_⟩);refine GS (Gn rfl (λ_=>(Gives.UZ rfl rfl (by simp only[zad,zal,zcu];omega))) ?_);refine GS (Gn rfl (λ_=>(Gives.UZ rfl rfl (by simp only[zad,zal,zcu];omega))) ?_);refine Gp a 17 rfl rfl (λ_=>(Gives.UZ rfl rfl (by simp only[zad,zal,zcu];omega))) ?_;have e:Cb c.null++[32]++itoa c.n++[32]++itoa (c.s.length:Int)++[32]++c.s=vS c:=by unfold vS;simp
  rw[e];obtain⟨F0,dS,gH,aI⟩:=b.focus At1;refine rD a 18 [] rfl kR (rA (news:=vS c) dS oM) rfl kR kR (λv' _ hv=>?_);obtain⟨rfl,bZ,F1,pF,hs⟩:=hv;have b:=aI _ F1 _ bZ pF hs;rw[<-VW]at b;refine⟨sT,?_⟩;refine Zb0 ?_;refine Vc ((i+1:Nat):Int) ?_;refine Zb1 ?_;exact aj (i+1) tR ⟨oM,b.dA⟩ oM
 have oQ:i=k.length:=oM;rw[oQ,zbo]at S;refine Zb0 ?_;have hl5:=Oe BM;obtain⟨F0,dS,gH,aI⟩:=S.focus At0;refine aK (Bw dS oM) rfl rfl (λv' _ hv=>?_);obtain⟨rfl,bZ,F1,pF,hs⟩:=hv;have b:=aI _ F1 _ bZ pF hs;refine Zb1 ?_;exact⟨rfl,b.kept⟩
end
abbrev D5:=Value×Value×bQ
def xY (z:D5):LV:=[z.1,z.2.1,I z.2.2.w]
instance:jf xY 3:=⟨λ_=>rfl⟩
def GK (w:Wd) (Z:List D5):Prop:=∀z∈Z,aQ w z.1 ah 3 z.2.2.key/\aQ w z.2.1 ah 3 z.2.2.vals
theorem GK.keep {w w':Wd} {Z:List D5} (h:GK w Z) (hk:Kept noB w w'):GK w' Z:=λz hz=>⟨(h z hz).1.keep hk,(h z hz).2.keep hk⟩
def yS (n:Int):LV:=[I n]
instance:jf yS 1:=⟨λ_=>rfl⟩
def xZ {α:Type} (w:Wd) (fv:Value) (enc:α->Value) (l:List α) (p:α->Bool):Prop:=
 ∃f fs cs,fv=.func (.func f) (List.toArray fs) (List.toArray cs)/\qb prog f/\∀x∈l,∀w',Kept noB w w'->aY prog f (fs++[enc x]++cs) w' λv w''=>v=.bool (p x)/\Kept noB w' w''
theorem xZ.keep {α:Type} {w w':Wd} {fv:Value} {enc:α->Value} {l:List α} {p:α->Bool} (h:xZ w fv enc l p) (hk:Kept noB w w'):xZ w' fv enc l p:=by
 obtain⟨f,fs,cs,h1,h2,h3⟩:=h;exact⟨f,fs,cs,h1,h2,λx hx w'' hk'=>h3 x hx w'' (hk.JY hk')⟩
section
variable {w:Wd}
theorem adV {l:List D5} {v fv:Value} {p:D5->Bool} (hl:aQ w v xY 3 l) (hp:xZ w fv (λx=>agg (xY x)) l p):Rk prog 404 [v,fv] w (I (BI (l.findIdx? p))):=by
 obtain⟨A,m,rfl,⟨hm,qX⟩,hA⟩:=hl;obtain⟨f,fs,cs,rfl,Dn,p8⟩:=hp;have H:=Sep.aJ w;refine dF func404 rfl rfl rfl rfl ?_;refine Zb4 ?_;refine aR (λi:Nat=>[(0,.slice A l.length m),(1,.func (.func f) fs.toArray cs.toArray),(7,I l.length),(8,I i)]) (λi w'=>(i<=l.length/\∀(j:Nat) y,j<i->l[j]? =some y->p y=false)/\Sep w noB [] w') (λi _=>l.length-i) 0 tR ⟨⟨zaq _,λj y hj=>oM⟩,H⟩ (λi τ _ hI=>?_);obtain⟨⟨hi,BN⟩,k⟩:=hI
 try simp only[cK,like,aS,bK]
 refine Za1 ?_;refine Qn (dW (Cp rfl (λS=>?_) (λS=>?_)))
 .have bH:i<l.length:=oM
  obtain⟨x,hx⟩:=get_some bH;refine Zb7 ?_;refine dP rfl (p8 x (zam hx) _ k.kept) rfl rfl (λv' _ hv=>?_);obtain⟨rfl,bZ⟩:=hv;have S:=k.keep bZ;refine Qn (Cd rfl (λa=>?_) (λa=>?_))
  .have fu:l.findIdx? p=some i:=uQ BN hx a
   refine Zb2 ?_;exact⟨by rw[fu];rfl,S.kept⟩
  have Ng:=a;refine Zb0 ?_;refine Vc ((i+1:Nat):Int) ?_;refine Zb1 ?_;exact aj (i+1) tR ⟨⟨oM,λj y hj hy=>by
  by_cases e:j=i
  .subst e;rw[hx]at hy;injection hy with hy;rw[<-hy];exact zdg _▸Ng
  exact BN j y oM hy⟩,S⟩ oM
 have oQ:i=l.length:=oM;have fu:l.findIdx? p=none:=qV λj y hy=>BN j y (by have:=gN hy;omega) hy;refine Zb1 ?_;exact⟨by rw[fu];rfl,k.kept⟩
theorem Ue {l:List D5} {v fv:Value} {p:D5->Bool} (hl:aQ w v xY 3 l) (hp:xZ w fv (λx=>agg (xY x)) l p):Rk prog 396 [v,fv] w (.bool (l.any p)):=by
 have H:=Sep.aJ w;refine dF func396 rfl rfl rfl rfl ?_;refine Zb3 ?_;refine aD H (adV (hl.keep H.kept) (hp.keep H.kept)) (h:=λ_ k _=>?_);refine Zb2 ?_;exact⟨by rw[<-Bt];rfl,k.kept⟩
theorem aaM {l:List ay} {v fv:Value} {p:ay->Bool} (hl:aQ w v ah 3 l) (hp:xZ w fv (λx=>agg (ah x)) l p):Rk prog 412 [v,fv] w (I (BI (l.findIdx? p))):=by
 obtain⟨A,m,rfl,⟨hm,qX⟩,hA⟩:=hl;obtain⟨f,fs,cs,rfl,Dn,p8⟩:=hp;have H:=Sep.aJ w;refine dF func412 rfl rfl rfl rfl ?_;refine Zb4 ?_;refine aR (λi:Nat=>[(0,.slice A l.length m),(1,.func (.func f) fs.toArray cs.toArray),(7,I l.length),(8,I i)]) (λi w'=>(i<=l.length/\∀(j:Nat) y,j<i->l[j]? =some y->p y=false)/\Sep w noB [] w') (λi _=>l.length-i) 0 tR ⟨⟨zaq _,λj y hj=>oM⟩,H⟩ (λi τ _ hI=>?_);obtain⟨⟨hi,BN⟩,k⟩:=hI
 try simp only[cK,like,aS,bK]
 refine Za1 ?_;refine Qn (dW (Cp rfl (λS=>?_) (λS=>?_)))
 .have bH:i<l.length:=oM
  obtain⟨x,hx⟩:=get_some bH;refine Zb7 ?_;refine dP rfl (p8 x (zam hx) _ k.kept) rfl rfl (λv' _ hv=>?_);obtain⟨rfl,bZ⟩:=hv;have S:=k.keep bZ;refine Qn (Cd rfl (λa=>?_) (λa=>?_))
  .have fu:l.findIdx? p=some i:=uQ BN hx a
   refine Zb2 ?_;exact⟨by rw[fu];rfl,S.kept⟩
  have Ng:=a;refine Zb0 ?_;refine Vc ((i+1:Nat):Int) ?_;refine Zb1 ?_;exact aj (i+1) tR ⟨⟨oM,λj y hj hy=>by
  by_cases e:j=i
  .subst e;rw[hx]at hy;injection hy with hy;rw[<-hy];exact zdg _▸Ng
  exact BN j y oM hy⟩,S⟩ oM
 have oQ:i=l.length:=oM;have fu:l.findIdx? p=none:=qV λj y hy=>BN j y (by have:=gN hy;omega) hy;refine Zb1 ?_;exact⟨by rw[fu];rfl,k.kept⟩
theorem Qy {l:List ay} {v fv:Value} {p:ay->Bool} (hl:aQ w v ah 3 l) (hp:xZ w fv (λx=>agg (ah x)) l p):Rk prog 406 [v,fv] w (.bool (l.any p)):=by
 have H:=Sep.aJ w;refine dF func406 rfl rfl rfl rfl ?_;refine Zb3 ?_;refine aD H (aaM (hl.keep H.kept) (hp.keep H.kept)) (h:=λ_ k _=>?_);refine Zb2 ?_;exact⟨by rw[<-Bt];rfl,k.kept⟩
theorem adW {l:List Int} {v fv:Value} {p:Int->Bool} (hl:aQ w v yS 1 l) (hp:xZ w fv (λx=>I x) l p):Rk prog 410 [v,fv] w (I (BI (l.findIdx? p))):=by
 obtain⟨A,m,rfl,⟨hm,qX⟩,hA⟩:=hl;obtain⟨f,fs,cs,rfl,Dn,p8⟩:=hp;have H:=Sep.aJ w;refine dF func410 rfl rfl rfl rfl ?_;refine Zb4 ?_;refine aR (λi:Nat=>[(0,.slice A l.length m),(1,.func (.func f) fs.toArray cs.toArray),(7,I l.length),(8,I i)]) (λi w'=>(i<=l.length/\∀(j:Nat) y,j<i->l[j]? =some y->p y=false)/\Sep w noB [] w') (λi _=>l.length-i) 0 tR ⟨⟨zaq _,λj y hj=>oM⟩,H⟩ (λi τ _ hI=>?_);obtain⟨⟨hi,BN⟩,k⟩:=hI
 try simp only[cK,like,aS,bK]
 refine Za1 ?_;refine Qn (dW (Cp rfl (λS=>?_) (λS=>?_)))
 .have bH:i<l.length:=oM
  obtain⟨x,hx⟩:=get_some bH;refine Zb7 ?_;refine dP rfl (p8 x (zam hx) _ k.kept) rfl rfl (λv' _ hv=>?_);obtain⟨rfl,bZ⟩:=hv;have S:=k.keep bZ;refine Qn (Cd rfl (λa=>?_) (λa=>?_))
  .have fu:l.findIdx? p=some i:=uQ BN hx a
   refine Zb2 ?_;exact⟨by rw[fu];rfl,S.kept⟩
  have Ng:=a;refine Zb0 ?_;refine Vc ((i+1:Nat):Int) ?_;refine Zb1 ?_;exact aj (i+1) tR ⟨⟨oM,λj y hj hy=>by
  by_cases e:j=i
  .subst e;rw[hx]at hy;injection hy with hy;rw[<-hy];exact zdg _▸Ng
  exact BN j y oM hy⟩,S⟩ oM
 have oQ:i=l.length:=oM;have fu:l.findIdx? p=none:=qV λj y hy=>BN j y (by have:=gN hy;omega) hy;refine Zb1 ?_;exact⟨by rw[fu];rfl,k.kept⟩
theorem Uf {l:List Int} {v fv:Value} {p:Int->Bool} (hl:aQ w v yS 1 l) (hp:xZ w fv (λx=>I x) l p):Rk prog 401 [v,fv] w (.bool (l.any p)):=by
 have H:=Sep.aJ w;refine dF func401 rfl rfl rfl rfl ?_;refine Zb3 ?_;refine aD H (adW (hl.keep H.kept) (hp.keep H.kept)) (h:=λ_ k _=>?_);refine Zb2 ?_;exact⟨by rw[<-Bt];rfl,k.kept⟩
def Xb (c:ay):Bool:=decide (c.s≠[]\/(c.null=true/\c.n≠0))
theorem agP (c:ay):Rk prog 405 [agg (ah c)] w (.bool (Xb c)):=by
 have H:=Sep.aJ w;refine dI func405 rfl rfl rfl rfl ?_;refine Sr (cB H (cs:=ah c) rfl (h:=λb1 _ k _=>?_));refine Zb5 ?_;refine aF (t:=6) rfl (λS=>?_) (λS=>?_)
 .refine Zb2 ?_
  exact⟨by unfold Xb;simp only[*,eP];simp[*],k.kept⟩
 refine Zb3 ?_;refine gu (t:=9) rfl (λS=>?_) (λS=>?_)
 .refine Zb6 ?_
  exact⟨by unfold Xb;simp only[*,eP];simp[*],k.kept⟩
 refine Zb3 ?_;exact⟨by unfold Xb;simp only[*,eP];simp[*],k.kept⟩
end
theorem adX {keys sums:Nat} {x:bQ}:vN keys sums x=(decide (x.key.length=keys/\x.vals.length=sums)&& !x.vals.any Xb):=by
 unfold vN
 congr 1
 rw[List.not_any_eq_all_not]
 congr 1
 funext c
 unfold Xb;rw[<-decide_not];exact zbg.2 (by simp[not_or])
theorem Qz {ns:List Int} {n:Int} (h:ns[0]? =some n):ns.headD 0=n:=by
 cases ns with
 | nil=>cases h
 | cons a t=>injection h
section
variable {w:Wd}
theorem QA {k:List ay} {ns:List Int} {kv nv:Value} (wt:Int) (hk:aQ w kv ah 3 k) (hn:aQ w nv yS 1 ns) (hl:k.length<=400) (hl2:ns.length<=400):
    aY Tryz.prog 400 [agg [kv,nv],I wt] w λu w'=>∃x:Value×List Held,u=x.1/\x.2.map (·.2)=iO ns k wt/\Turn noB (eU x.1 x.2) w w':=by
  have yK:=hk;obtain⟨K,ck,rfl,⟨d9,al5⟩,hK⟩:=hk;obtain⟨N,cn,rfl,⟨Pt,aoE⟩,hN⟩:=hn;have H:=Sep.aJ w;refine dF Tryz.func400 rfl rfl rfl rfl ?_;refine Sr (cB H (cs:=[.slice K k.length ck,.slice N ns.length cn]) rfl (h:=λb2 _ S _=>?_));refine Zb6 ?_;refine aF (t:=12) rfl (λa=>?_) (λa=>?_)
  . refine Zb2 ?_
    have h0:ns.headD 0=0:=by
      first
      | (have hz:ns.length=0:=oM
         rw[zbe hz];rfl)
      | (rw[Qz yX];omega)
    exact⟨(.slice none 0 0,[]),rfl,by unfold iO;rw[zac h0];rfl,(Sep.jM (dN S) 82 2).bD.first.turn⟩
  refine Zb2 ?_;have VH:0<ns.length:=oM;obtain⟨n0,yX⟩:=get_some VH;refine Vv (Gives.jJ (i:=0) rfl rfl hN VH) (On ?_);refine Vv (Gives.jc (i:=0) (f:=0) rfl S hN yX rfl) (Za2 ?_);refine Qn (Cp rfl (λa=>?_) (λa=>?_))
  . refine Zb1 ?_
    have h0:ns.headD 0=0:=by
      first
      | (have hz:ns.length=0:=oM
         rw[zbe hz];rfl)
      | (rw[Qz yX];omega)
    exact⟨(.slice none 0 0,[]),rfl,by unfold iO;rw[zac h0];rfl,(Sep.jM (dN S) 82 2).bD.first.turn⟩
  refine Zb2 ?_;have iC: ¬ns.headD 0=0:=by rw[Qz yX];omega
  refine dn S (oZ (yK.keep S.kept) oM) (h:=λy _ _ a _=>?_);obtain⟨Y,cy,rfl,_,_⟩:=Sep.dQ a At0;refine Zb5 ?_;have e0:k++(ns.take 0).map uh=k:=sM;refine aR (λx:(OA×Nat)×Nat=>[(1,I wt),(5,.slice x.1.1 (k++(ns.take x.2).map uh).length x.1.2),(23,.slice N ns.length cn),(24,I ns.length),(25,I x.2)]) (λx w'=>x.2<=ns.length/\Mw.Sep w noB [bJ 52 3 ah (.slice x.1.1 (k++(ns.take x.2).map uh).length x.1.2) (k++(ns.take x.2).map uh)] w') (λx _=>ns.length-x.2) ((Y,cy),0) ⟨rfl,by dsimp only;rw[e0];rfl,rfl,rfl,rfl,trivial⟩ ⟨zaq _,by dsimp only;rw[e0];exact a.first⟩ (λx τ _ hI=>?_);obtain⟨⟨R,cR⟩,i⟩:=x;obtain⟨hi,a⟩:=hI;dsimp only at hi a
  try simp only[cK,like,aS,bK]
  refine Za1 ?_;refine Qn (dW (Cp rfl (λS=>?_) (λS=>?_)))
  . have bH:i<ns.length:=oM
    obtain⟨m,hm⟩:=get_some bH;have VW:k++(ns.take i).map uh++[uh m]=k++(ns.take (i+1)).map uh:=by rw[zbd,hm,zau,zbp];rfl
    have hlen:(k++(ns.take i).map uh).length<=800:=by rw[zad,zaf,zaj];omega
    refine Zb0 ?_;refine Vv (Gives.jJ rfl rfl hN bH) (Vv (Gives.jc (f:=0) rfl a hN hm rfl) ?_);refine Zb3 ?_;refine Vb (ah (uh m)) ?_;refine Bs a ([uh m].flatMap ah) (λbs _ S _=>?_);refine gP S (news:=[uh m]) At0 (by unfold maxLen;simp only[zah];omega) (by simp only[zah];omega) (cells_one (λ_=>rfl) _) (h:=?_);intro v5 S S;rw[VW]at S;obtain⟨R2,cR2,rfl,_,_⟩:=Sep.dQ S At0;refine Zb1 ?_;refine Vc ((i+1:Nat):Int) ?_;refine Zb1 ?_;exact aj ((R2,cR2),i+1) tR ⟨dO,S⟩ dO
  have oQ:i=ns.length:=oM;refine Zb2 ?_;refine Vb (aG (.slice R (k++(ns.take i).map uh).length cR,wt)) ?_;refine Bs a ([(Value.slice R (k++(ns.take i).map uh).length cR,wt)].flatMap aG) (λbs _ S _=>?_);refine Zb1 ?_;have h1:=Sep.o7 (n:=1) (s:=2) S At0 rfl dC;have h2:=jV (x:=.slice R (k++(ns.take i).map uh).length cR) (o:=⟨k++(ns.take i).map uh,wt⟩) (dN h1).aU;exact⟨(.slice (some ⟨bs,0,none⟩) 1 1,[(.slice R (k++(ns.take i).map uh).length cR,⟨k++(ns.take i).map uh,wt⟩)]),rfl,by rw[oQ,zbo];unfold iO;rw[zab iC];rfl,h2.aL.bD.first.turn⟩
end
def qd (keys sums bm:Nat):LV:=[.bool true,I keys,I sums,.map (some bm)]
def gU (w:Wd) (b:Nat) (cs:LV) (E:Td):Prop:=w.heap[b]? =some (.cells cs.toArray E (0,0))
theorem gU.keep {w w':Wd} {b:Nat} {cs:LV} {E:Td} (h:gU w b cs E) (hk:Kept noB w w'):gU w' b cs E:=Kept.get hk h id
section
variable {w:Wd}
theorem KP {bg keys sums bm:Nat} {E:Td} (hg:gU w bg (qd keys sums bm) E):Rk prog 391 [av bg] w (.bool false):=by
 have H:=Sep.aJ w;refine dI func391 rfl rfl rfl rfl ?_;refine Zb4 ?_;refine gu (t:=5) rfl (λk=>?_) (λk=>?_)
 .refine Zb2 ?_
  (exfalso;simp at *)
 refine Zb3 ?_;refine fq (hg.keep H.kept) (h:=?_);refine Zb3 ?_;exact⟨rfl,H.kept⟩
theorem aaN {bg keys sums bm:Nat} {E:Td} {z:D5} (hg:gU w bg (qd keys sums bm) E) (hk:aQ w z.1 ah 3 z.2.2.key) (hv:aQ w z.2.1 ah 3 z.2.2.vals):
    Rk prog 398 [av bg,agg (xY z)] w (.bool (vN keys sums z.2.2)):=by
  obtain⟨kv,vv,e⟩:=z;dsimp only at hk hv ⊢;have JB:=hv;obtain⟨K,ck,rfl,⟨d9,al5⟩,hK⟩:=hk;obtain⟨V,cv,rfl,⟨hcv,al6⟩,hV⟩:=hv;rw[adX];have H:=Sep.aJ w;refine dF func398 rfl rfl rfl rfl ?_;refine Sr (cB H (cs:=xY (.slice K e.key.length ck,.slice V e.vals.length cv,e)) rfl (h:=λb3 _ _ _=>?_));refine Zb2 ?_;refine Ds (λk _ S=>?_);refine Zb6 ?_;refine GS (Gt rfl (Gives.sJ rfl (hg.keep S.kept) rfl) ?_);refine Zb2 ?_;refine iM (t:=14) rfl (λI=>?_) (λI=>?_)
  . refine Zb6 ?_
    refine GS (Gt rfl (Gives.sJ rfl (hg.keep S.kept) rfl) ?_);refine Zb3 ?_;refine iM (t:=24) rfl (λI=>?_) (λI=>?_)
    . refine Zb3 ?_
      refine gI k 22 _ S (Qy (p:=Xb) (fv:=.func (.func 405) #[] #[]) (JB.keep S.kept) ⟨405,[],[],rfl,inferInstance,λx _ w' _=>agP x⟩) (h:=λ_ I _=>⟨sT,?_⟩);refine Zb3 ?_
      first
      | exact⟨by rw[zbj (show e.key.length=keys/\e.vals.length=sums from⟨oM,oM⟩),zeg];rfl,I.kept⟩
      | exact⟨by rw[zas (show ¬(e.key.length=keys/\e.vals.length=sums)from λh=>by have h1:=h.1;have h2:=h.2;omega),zge];rfl,I.kept⟩
    refine Zb2 ?_
    first
    | exact⟨by rw[zbj (show e.key.length=keys/\e.vals.length=sums from⟨oM,oM⟩),zeg];rfl,S.kept⟩
    | exact⟨by rw[zas (show ¬(e.key.length=keys/\e.vals.length=sums)from λh=>by have h1:=h.1;have h2:=h.2;omega),zge];rfl,S.kept⟩
  refine Zb4 ?_
  first
  | exact⟨by rw[zbj (show e.key.length=keys/\e.vals.length=sums from⟨oM,oM⟩),zeg];rfl,S.kept⟩
  | exact⟨by rw[zas (show ¬(e.key.length=keys/\e.vals.length=sums)from λh=>by have h1:=h.1;have h2:=h.2;omega),zge];rfl,S.kept⟩
theorem aaO {b2 bg keys sums bm:Nat} {E E2:Td} {z:D5} (hg:gU w bg (qd keys sums bm) E) (h2:gU w b2 [av bg] E2) (hk:aQ w z.1 ah 3 z.2.2.key) (hv:aQ w z.2.1 ah 3 z.2.2.vals):
    Rk prog 397 [agg (xY z),av b2] w (.bool (!vN keys sums z.2.2)):=by
  obtain⟨kv,vv,e⟩:=z;have yK:=hk;have JB:=hv;dsimp only at hk hv;obtain⟨K,ck,rfl,⟨d9,al5⟩,hK⟩:=hk;obtain⟨V,cv,rfl,⟨hcv,al6⟩,hV⟩:=hv;have H:=Sep.aJ w;refine dF func397 rfl rfl rfl rfl ?_;refine Sr (cB H (cs:=xY (.slice K e.key.length ck,.slice V e.vals.length cv,e)) rfl (h:=λb3 _ k _=>?_));refine Zb1 ?_;refine fq (h2.keep k.kept) (h:=?_);refine Zb1 ?_;refine aD k (aaN (hg.keep k.kept) (yK.keep k.kept) (JB.keep k.kept)) (h:=λ_ k _=>?_);refine Vv (Gives.not rfl) (Zb1 ?_);exact⟨rfl,k.kept⟩
theorem aaP {b2 bg keys sums bm:Nat} {E E2:Td} {Z:List D5} {v:Value} (hg:gU w bg (qd keys sums bm) E) (h2:gU w b2 [av bg] E2) (hZ:GK w Z) (hl:aQ w v xY 3 Z):
    Rk prog 396 [v,.func (.func 397) #[] #[av b2]] w (.bool (Z.any λz=> !vN keys sums z.2.2)):=
  Ue hl ⟨397,[],[av b2],rfl,inferInstance,λz hz w' hk=>aaO (hg.keep hk) (h2.keep hk) ((hZ z hz).1.keep hk) ((hZ z hz).2.keep hk)⟩
end
end Go.Proofs.YtkfpleidaoaonaaGreatDoor
