/-
 The program's cells of bytes as texts,and back,walked.
-/
import Derived.Test.YtbkjpdboaclopaaGreatDoorNd13
import Derived.Lib.ItoaLen
import Derived.Test.YtbkjpdboaclopaaGreatDoorRows
import Derived.PinnedBridge
import Derived.Stop.LaidErr
import Derived.Deep.DeepHandedRow
import Derived.Lay
import Derived.MakeChecks
set_option linter.all false
set_option maxRecDepth 100000
namespace Go.Proofs.Mw
open Go.Proofs.YtbkjpdboaclopaaGreatDoor
open Go.Lib Go.Proofs.Tryz
attribute [local irreducible] FW FL FG FGn jJ jO fC lJ Qfn Gives
section
def iE:bR:=⟨5,false⟩
def uy (c:aC):L8×Int:=if gL iE c=0 then(120::zA c.s,0)else([],gL iE c)
def agB {c:aC} (h:gL iE c=0):c.null=false/\c.s.length<=1024:=by
 unfold gL at h;have e:oD iE=true:=rfl;rw[e,zaa dC]at h;cases hn:c.null with
 | true=>rw[hn,zac rfl]at h;split at h<;>rename_i hx;exact zas hx.1 dC;cases h
 | false=>
  rw[hn,zaa dC]at h
  split at h
  .rename_i hx
   have :isC iE.kind c=decide (c.n=0/\c.s.length<=1024):=rfl;rw[this,decide_eq_true_eq]at hx;exact⟨rfl,hx.2⟩
  cases h
section
variable {w:Wd}
def MS (c:aC) (hf:fits c.n) (hT:ny w):Rk prog 209 [agg (aD iE),agg (ah c)] w (.tuple #[str (uy c).1,I (uy c).2]):=by
 have H:=Sep.aH w;refine bU func209 ?_;refine Sr (bB H (cs:=aD iE) rfl (h:=λb0 _ k _=>?_));refine bB k (h:=λb3 _ k _=>?_);refine Kz (uo iE c hf (hT.keep k.kept)) (λ_ k _=>?_);refine Cz (λS=>?_) (λS=>?_)
 .have ak:uy c=([],gL iE c):=zaa S
  refine V3 ?_;exact⟨by rw[ak];rfl,k.kept⟩
 have dN:gL iE c=0:=by simpa using S
 have ak:uy c=(120::zA c.s,0):=zac dN;obtain⟨tX,YS⟩:=agB dN;refine O2 ?_;refine Qn (Cd rfl (λS=>?_) (λS=>?_))
 .exact zas S (by rw[tX];decide)
 refine Dz (λS _ k=>?_);refine V1 ?_;refine jU S 3 k (h:=?_);refine p8 S 1 [(3,false)] rfl kR (agn iE dC dC (hT.keep k.kept)) rfl kR kR (λv' _ hv=>?_);obtain⟨⟨isF,rfl,_⟩,cK⟩:=hv;have a:=k.keep cK;rw[show Bz iE.kind=kF5 from rfl];refine⟨(bQ rfl kR (Gives.Ky rfl (a.obj At0) (us:=ah c) rfl rfl) rfl (eF)),?_⟩;refine V1 ?_;refine j4 S 4 _ (y:=.tmp 17) (f:=263) (fs:=[]) (cs:=[]) (vals:=[agg (ah c)]) rfl (ajV c oM) (h:=λv' _ hv=>?_);obtain⟨rfl,anz⟩:=hv;have k:=a.keep anz;refine⟨sT,?_⟩;refine V2 ?_;exact⟨by rw[ak];rfl,k.kept⟩
def ZK (l:L8) (hl:l.length<=1000000) (h0:l.head?=some 120) (hT:ny w):aQ prog 284 [agg (aD iE),str l] w λv w'=>(∃e,v=.tuple #[agg (ah ⟨false,0,GX l⟩),I e])/\Kept noB w w':=by
  have H:=Sep.aH w;obtain⟨s,hs⟩: ∃s,s=tQ (l.drop 1):=⟨_,rfl⟩;have hrx:GX l=if 120::zA s=l/\s.length<=1024 then s else []:=by rw[hs];rfl
  have anE:gL iE ⟨false,0,s⟩=if s.length<=1024 then 0 else 90:=by
    have e:isC iE.kind ⟨false,0,s⟩=decide ((0:Int)=0/\s.length<=1024):=rfl;have e1:oD iE=true:=rfl;unfold gL;rw[e1,zaa dC,zaa sM,e]
    by_cases h:s.length<=1024<;>simp[h]
  refine tN func284 ?_;refine Sr (bB H (cs:=aD iE) rfl (h:=λb0 _ _ _=>?_));refine Az (λb3 _ _ _=>?_);refine Kz (zS iE) (λ_ k _=>?_);refine Cz (λS=>?_) (λS=>?_)
  . exact zas S dC
  refine V1 ?_;refine aL (agn iE dC dC (hT.keep k.kept)) rfl rfl (λv' _ hv=>?_);obtain⟨⟨isF,rfl,_⟩,cK⟩:=hv;have S:=k.keep cK;rw[show Bz iE.kind=kF5 from rfl];refine V2 ?_;refine eY (f:=264) (fs:=[]) (cs:=[]) (vals:=[str l]) rfl (adK l hl h0) rfl rfl (λv' _ hv=>?_);obtain⟨rfl,cK⟩:=hv;have k:=S.keep cK;rw[<-hs];refine Az (λb19 _ _ _=>?_);refine Tz (λ_ k=>?_);refine Cz (λS=>?_) (λS=>?_)
  . have hln:l=[110,117,108,108]:=S
    rw[hln]at h0;cases h0
  refine Kz (MS ⟨false,0,s⟩ ⟨(by show(-9223372036854775808:Int)<=0;decide),(by show(0:Int)<=9223372036854775807;decide)⟩ (hT.keep k.kept)) (λ_ _ _=>?_);refine Sz (λS=>?_) (λS=>?_)
  . have mE:GX l=[]:=by
      rw[hrx,zaa];rintro⟨_,h2⟩;refine S ?_;unfold uy;rw[anE,zac h2,zac rfl]
    refine V1 ?_;refine Vb (ah cell0) ?_;refine Tz (λ_ k=>?_);refine V1 ?_;exact⟨_,bF k,⟨4,by rw[mE];rfl⟩,k.kept⟩
  have hz:s.length<=1024:=by
    refine Classical.byContradiction λh=>S ?_;unfold uy;rw[anE,zaa h,zaa dC]
    decide
  have htx:(uy ⟨false,0,s⟩).1=120::zA s:=by
    unfold uy;rw[anE,zac hz,zac rfl]
  refine Cz (λk=>?_) (λk=>?_)
  . have mE:GX l=[]:=by rw[hrx,zaa (λh=>k (by rw[htx];exact h.1))]
    refine Sr (Vb (ah cell0) ?_);refine Tz (λ_ S=>?_);refine V1 ?_;exact⟨_,bF S,⟨4,by rw[mE];rfl⟩,S.kept⟩
  have Fh:GX l=s:=by rw[hrx,zac ⟨by rw[<-htx];exact zcq.1 k,hz⟩]
  refine Tz (λ_ S=>?_);refine V1 ?_;exact⟨_,bF S,⟨0,by rw[Fh];rfl⟩,S.kept⟩
end
def ZL (b:UInt8):Lib.index [] [b]= -1:=rfl
def MU (b:UInt8) (t:L8):Lib.index (b::t) [b]=0:=by
 unfold Lib.index;rw[zac (by simp[List.isPrefixOf])]
def KF {b c:UInt8} (h:c≠b) (t:L8):Lib.index (c::t) [b]=if Lib.index t [b]= -1 then -1 else Lib.index t [b]+1:=by
 rw[Lib.index,zaa (by simp[List.isPrefixOf];exact λe=>h e.symm)]
 by_cases h1:Lib.index t [b]= -1<;>simp[h1]
def zW (b:UInt8) (new:L8): ∀(s:L8) (k:Nat),s.count b<=k->Lib.replaceK [b] new k s=s.flatMap λc=>if c=b then new else [c]
 | [],0,_=>rfl
 | [],k+1,_=>by rw[Lib.replaceK,ZL,zac dC];rfl
 | c::t,k,hk=>by
  by_cases h:c=b
  .subst h
   rw[List.count_cons_self]at hk;obtain⟨k,rfl⟩: ∃k',k=k'+1:=⟨k-1,oM⟩;rw[Lib.replaceK_hit [c] new k (c::t) 0 (MU c t),zbh,zac rfl];show []++new++Lib.replaceK [c] new k t=_
   rw[zW c new t k oM];rfl
  rw[List.count_cons_of_ne h]at hk;rw[zbh,zaa h,<-zW b new t k hk];cases k with
  | zero=>rfl
  | succ k=>
   rw[Lib.replaceK,Lib.replaceK,KF h]
   by_cases h1:Lib.index t [b]= -1
   .rw[h1];rfl
   have hge:=Lib.index_ge t [b];have e0: ¬(Lib.index t [b]== -1)=true:=by simpa using h1
   have e1: ¬(Lib.index t [b]+1== -1)=true:=by simp;omega
   rw[zaa h1,zaa e0,zaa e1];have e2:(Lib.index t [b]+1).toNat=(Lib.index t [b]).toNat+1:=oM;have e3:(Lib.index t [b]).toNat+1+[b].length=((Lib.index t [b]).toNat+[b].length)+1:=oM;rw[e2,e3,zdb,zer];rfl
def MV (b:UInt8) (new s:L8) (h:new≠[b]):Lib.replaceAll s [b] new=s.flatMap λc=>if c=b then new else [c]:=by
 unfold Lib.replaceAll Lib.replace;rw[zaa (by simpa using λe=>h e.symm)];refine zW b new s _ ?_;unfold Lib.replaceNum;rw[zac (.inl dC),Lib.count_one];exact zbi _
def QG (w:Wd) (k:Nat) (os:Array Obj):Kept noB w (Go.Sort.grow (w.drewN k) os):=by
 refine⟨rfl,rfl,rfl,?_,λb hb _=>?_⟩
 .show w.heap.size<=(w.heap++os).size
  rw[Array.size_append];omega
 show(w.heap++os)[b]? =w.heap[b]?
 rw[Array.getElem?_append_left hb]
section
variable {w:Wd}
def zX (n:Int) (hn:fits n) (hT:gT w):Rk prog 205 [.int .i64 n,I 10] w (str (Lib.itoa n)):=
 Calls.mono (Tryz.strconv_FormatInt_10 n hn.1 hn.2 w hT.pow) λe w' he=>by
  obtain⟨rfl,k,os,rfl⟩:=he;exact⟨rfl,QG w k os⟩
def Ec (b:Bool):aQ prog 206 [.bool b] w λv w'=>v=str (if b=true then [116,114,117,101]else [102,97,108,115,101])/\w=w':=
 lH (by
  have:=Tryz.strconv_FormatBool b w;cases b<;>exact this)
def PN (l:L8) (hl:l.length<=10000000) (hT:gT w):Rk prog 208 [str l,str [32],str [92,117,48,48,50,48]] w (str (l.flatMap λc=>if c=32 then [92,117,48,48,50,48]else [c])):=by
 obtain⟨m,hm⟩:=hT.len;have h1:=Lib.countB_le ⟨#[32]⟩ dC l.length ⟨l.toArray⟩ (by rw[Mw.size_mk];exact zbi _);rw[Mw.size_mk]at h1
 have:=rE (Tryz.strings_ReplaceAll ⟨l.toArray⟩ ⟨#[32]⟩ ⟨#[92,117,48,48,50,48]⟩ m w (by rw[Mw.size_mk];omega) hm dC (by
  rw[Mw.size_mk];show l.length+Lib.countB ⟨l.toArray⟩ ⟨#[32]⟩*6<=_
  omega))
 have e:Lib.replaceAll l [32] [92,117,48,48,50,48]=l.flatMap λc=>if c=32 then [92,117,48,48,50,48]else [c]:=MV 32 _ l dC
 rw[<-e];exact this
def WI:aQ prog 210 [] w λv w'=>∃b:Nat,v=.slice (some ⟨b,0,none⟩) 12 12/\True/\Turn noB (blk b (lW.flatMap gP) 9) w w':=by
 have H:=Sep.aH w;refine abR func210 ?_;refine V1 ?_;refine Bs H (lW.flatMap gP) (λb1 _ k _=>?_);refine V1 ?_;exact⟨b1,rfl,trivial,k.turn⟩
def WJ (x:bL) (hm:dU x=true) (hf:fits x.n) (hT:gT w):Rk prog 145 [agg (aN x)] w (str (gX x)):=by
 have H:=Sep.aH w;have jG:=Cx hf.1 hf.2;obtain⟨res,ak⟩: ∃res,res=gX x:=⟨_,rfl⟩;rw[<-ak];unfold gX at ak;unfold dU at hm;refine dh func145 ?_;refine Sr (bB H (cs:=aN x) rfl (h:=λb0 _ k _=>?_));refine Cz (λS=>?_) (λS=>?_)
 .rw[zac S]at ak hm
  refine Kz (zX x.n hf (hT.keep k.kept)) (λ_ I _=>?_);refine V2 ?_;exact⟨by rw[ak];rfl,I.kept⟩
 rw[zaa S]at ak hm;refine Cz (λI=>?_) (λI=>?_)
 .rw[zac I]at ak hm
  refine Kz (zX x.n hf (hT.keep k.kept)) (λ_ S _=>?_);refine V1 ?_;exact⟨by rw[ak];rfl,S.kept⟩
 rw[zaa I]at ak hm;refine Cz (λS=>?_) (λS=>?_)
 .rw[zac S]at ak hm
  refine V3 ?_;refine eG (Ec (decide (x.n=1))) (h:=?_);refine V1 ?_;exact⟨by rw[ak];by_cases h1:x.n=1<;>simp only[h1,decide_true,decide_false,if_true,if_false]<;>rfl,k.kept⟩
 rw[zaa S]at ak hm;refine Cz (λS=>?_) (λS=>?_)
 .rw[zac S]at ak hm
  simp only[decide_eq_true_eq]at hm;obtain⟨_,hlen,YQ⟩:=hm;have Zl:=afN x.s;refine Kz (adH x.s oM (hT.keep k.kept).utf) (λ_ I _=>?_);rw[show Ki x.s=(vV x.s,0) by unfold Ki;rw[zac YQ]];refine Kz (PN (vV x.s) oM (hT.keep I.kept)) (λ_ I _=>?_);refine V1 ?_;exact⟨by rw[ak];rfl,I.kept⟩
 rw[zaa S]at ak hm;refine Cz (λI=>?_) (λI=>?_)
 .rw[zac I]at ak hm
  simp only[decide_eq_true_eq]at hm;obtain⟨zG,hlen⟩:=hm
  have dN:gL iE ⟨false,0,x.s⟩=0:=by
   have e:isC iE.kind ⟨false,0,x.s⟩=decide ((0:Int)=0/\x.s.length<=1024):=rfl;have e1:oD iE=true:=rfl;unfold gL;rw[e1,zaa dC,zaa sM,e,zac (by simp[hlen])]
  refine Sr (Vb (aD iE) ?_);refine V2 ?_;refine Vb (ah ⟨false,0,x.s⟩) ?_;refine Kz (MS ⟨false,0,x.s⟩ ⟨(by show(-9223372036854775808:Int)<=0;decide),(by show(0:Int)<=9223372036854775807;decide)⟩ (hT.keep k.kept).utf) (λ_ k _=>?_);rw[show uy ⟨false,0,x.s⟩=(120::zA x.s,0)from zac dN];refine V7 ?_;exact⟨by rw[ak];rfl,k.kept⟩
 rw[zaa I]at ak hm;refine Cz (λk=>?_) (λk=>?_)
 .rw[zac k]at ak hm
  simp only[decide_eq_true_eq]at hm;refine Kz (TI x.n) (λ_ I _=>?_);refine V1 ?_;exact⟨by rw[ak];rfl,I.kept⟩
 rw[zaa k]at ak hm;simp only[decide_eq_true_eq]at hm;obtain⟨h7,h18,_,_⟩:=hm;have hg:=aiU h7 h18;rw[<-ak]at hg;have htn:(((x.kind-7).toNat:Nat):Int)=x.kind-7:=zcs oM;refine Dz (λI _ k=>?_);refine Gp I 1 rfl rfl (λ_=>(Gives.yt rfl)) (V1 ?_);refine Gc I 3 (((x.kind-7).toNat:Nat):Int) ?_;refine p8 I 0 [(3,true),(2,false),(1,true)] rfl kR (WI) rfl kR kR (λv' S hv=>?_);obtain⟨b1,rfl,_,cK,F1,hq,iC⟩:=hv;have a:=k.new cK hq (λb hb=>(iC b hb).resolve_left id);have hR:Rd S (some ⟨b1,0,none⟩) gP 1 lW:=Sep.lV a At0 rfl;refine⟨sL,?_⟩;refine Gp I 4 rfl rfl (λ_=>(Gives.fA (l:=lW) (enc:=gP) rfl rfl hR (fI hg))) (GS (Gt rfl (Gives.CJ (f:=0) rfl hR hg rfl) ?_));refine V1 ?_;exact⟨rfl,a.kept⟩
end
def join_eq (sep:UInt8): ∀ws:List (L8),Lib.join ws [sep]=iY sep ws
 | []=>rfl
 | [w]=>Lib.join_one w [sep]
 | w::x::l=>by
  have ih:=join_eq sep (x::l);show _=w++sep::iY sep (x::l)
  rw[<-ih];simp[Lib.join,List.intercalate]
attribute [local irreducible] dU gX
section
variable {w:Wd}
def ajW {l:List (L8)} {v:Value} (hr:aJ w v gP 1 l) (hl:l.length<=1000000) (hlen:(iY 32 l).length<=140737488355328):Rk prog 92 [v,str [32]] w (str (iY 32 l)):=by
 obtain⟨A,c,rfl,⟨hc,hc'⟩,hR⟩:=hr
 by_cases h0:l=[]
 .subst h0
  exact Calls.mono (Tryz.strings_Join_none A c ⟨#[32]⟩ w) λe w' he=>by
   obtain⟨rfl,rfl⟩:=he;exact⟨rfl,Kept.refl _ _⟩
 have Y4:0<l.length:=zfj.2 h0;obtain⟨ad,rfl⟩:=hR.addr Y4;obtain⟨x0,hx0⟩:=get_some Y4;obtain⟨ad',e0,hc0⟩:=hR.cell (f:=0) hx0 rfl;injection e0 with e0;subst e0
 have Eu:=World.cell?_spot hc0;obtain⟨bk,o,sp⟩:=ad;have anG:sp=none:=Eu;subst anG
 have hbk:bk<w.heap.size:=by
  refine Classical.byContradiction λhn=>?_;unfold World.cell? at hc0;rw[zdk (by show w.heap.size<=bk;omega)]at hc0;cases hc0
 have Jc:(l.map λs:L8=>(⟨s.toArray⟩:ByteArray)).map (·.data.toList)=l:=by
  rw[zdj];exact(zcr λs _=>rfl).trans (List.map_id l)
 have:=rE (Tryz.strings_Join bk o c (l.map λs=>⟨s.toArray⟩) ⟨#[32]⟩ w (λj x hj=>by
  rw[zbz]at hj;obtain⟨s,hs,rfl⟩:=zbc.1 hj;obtain⟨ad',e1,hcs⟩:=hR.cell (f:=0) hs rfl;injection e1 with e1;subst e1
  rw[zfd,zfb,Addr.add_lit]at hcs;exact hcs) hbk (by rw[zae];omega) (by rw[zae];exact hc) (by rw[Jc];show(Lib.join l [32]).length<=_;rw[join_eq];exact hlen))
 rw[Jc,zae]at this;have e:Lib.join l [32]=iY 32 l:=join_eq 32 l;rw[<-e];exact this
def WK {l:List bL} {vl:Value} (hl:aJ w vl aN 3 l) (hx: ∀x∈l,fits x.n) (hT:gT w):Rk prog 91 [vl] w (.tuple #[str (iQ l).1,I (iQ l).2]):=by
  obtain⟨C,n,rfl,⟨hn,hn'⟩,hC⟩:=hl;have H:=Sep.aH w;obtain⟨res,ak⟩: ∃res,res=iQ l:=⟨_,rfl⟩;rw[<-ak];unfold iQ at ak;refine dh func91 ?_;refine Cz (λhc6=>?_) (λhc6=>?_)
  . rw[zac oM]at ak
    refine V2 ?_;exact⟨by rw[ak];rfl,H.kept⟩
  rw[zaa oM]at ak;refine V4 ?_;have Ha:=Sep.iW H 9 1 gP;refine aI (λx:Nat×Value=>[(0,.slice C l.length n),(4,x.2),(10,.slice C l.length n),(11,I l.length),(12,I x.1)]) (λx w'=>(x.1<=l.length/\∀(j:Nat) y,j<x.1->l[j]? =some y->dU y=true)/\Sep w noB [aU 9 1 gP x.2 ((l.take x.1).map gX)] w') (λx _=>l.length-x.1) (0,.slice none 0 0) tR ⟨⟨zai _,λj x hj=>zas hj (zdw j)⟩,Ha⟩ (λx τ wa hI=>?_);obtain⟨i,v1⟩:=x;obtain⟨⟨hi,yI⟩,Ha⟩:=hI;dsimp only at hi yI Ha;have Jc:((l.take i).map gX).length=i:=by rw[zae,zah];omega
  refine Lp ?_;refine Cz (λIe=>?_) (λIe=>?_)
  . have aX:i<l.length:=oM
    obtain⟨x,pG⟩:=get_some aX;have hfx:=hx x (zag pG);have yH:(l.take (i+1)).map gX=(l.take i).map gX++[gX x]:=by rw[zat,pG,zak];rfl
    refine Az (λb6 wb Hb ka=>?_);refine Tz (λwc Hc=>?_);refine Kz (Zw x hfx (hT.keep Hc.kept).utf) (λwd Hd kb=>?_);refine O1 ?_;refine Qn (Cd rfl (λIf=>?_) (λIf=>?_))
    . have mE:l.all dU=false:=by
        rw[<-zdq,zba];intro h;have:=h x (zag pG);rw[this]at If;cases If
      rw[zac mE]at ak;refine V2 ?_;exact⟨by rw[ak];rfl,Hd.kept⟩
    have YX:dU x=true:=by simpa using If
    refine Kz (WJ x YX hfx (hT.keep Hd.kept)) (λwe He kc=>?_);refine Bs He ([gX x].flatMap gP) (λbs wf Hf kd=>?_);refine dJ Hf (news:=[gX x]) At1 (by rw[Jc];unfold maxLen;simp;omega) (by rw[Jc];show(i+1)*16<=_;omega) (by intro u hu;simp only[zbh,zfm,gP,zbt,zbb,zam,or_false]at hu;subst hu;rfl) (h:=?_);intro v2 wg Hg;rw[<-yH]at Hg;refine V3 ?_;exact aj (i+1,v2) tR ⟨⟨dO,λj y hj hy=>by
    by_cases e:j=i
    . subst e;rw[pG]at hy;injection hy with hy;rw[<-hy];exact YX
    exact yI j y (by dsimp only at hj;omega) hy⟩,(Hg.aF).firsts (l:=[_])⟩ dO
  have jG:i=l.length:=oM
  have jN:l.all dU=true:=zba.2 λx hxm=>by
    obtain⟨j,hj⟩:=zdd hxm;exact yI j x (by have:=fI hj;omega) hj
  rw[zaa (by rw[jN];simp)]at ak;rw[jG,zbq]at Ha;rw[jG,zbq]at Jc
  have hlen:(iY 32 (l.map gX)).length<=(6146+1)*l.length:=by
    have:=Cy 32 (k:=6146) (ws:=l.map gX) λw hw=>by
      obtain⟨x,hxm,rfl⟩:=zar.1 hw;exact YP (zba.1 jN x hxm) (hx x hxm)
    rw[zae]at this;exact this
  obtain⟨B,cb,rfl,Pv,hB⟩:=Sep.bH Ha At0;refine Kz (ajW (w:=wa) ⟨B,cb,rfl,⟨Pv,Sep.ajS Ha At0⟩,dP Ha At0⟩ oM oM) (λwh Hh ke=>?_);refine V2 ?_;exact⟨by rw[ak];rfl,Hh.kept⟩
end
end
open Go.RowKit Go.ChangeShapes Go.WideShapes
def tH (b:Nat) (l:L8) (at_:Nat) (e:Int):HP:=blk b [str l,I at_,I e] 382
def jf (e k:Int):Int:=if e=0 then k else e
def dF (l:L8) (at_:Nat) (e:Int):UInt8×Nat×Int:=if e≠0 then(0,at_,e)else if at_=l.length then(0,at_,3)else(l.getD at_ 0,at_+1,0)
def jX (l:L8) (at_:Nat) (e:Int) (c:UInt8):Nat×Int:=((dF l at_ e).2.1,if(dF l at_ e).1=c then(dF l at_ e).2.2 else jf (dF l at_ e).2.2 41)
def eH (l:L8) (at_:Nat) (e:Int):Nat×Nat×Int:=
 match nS (dF l at_ e).1 with
 | none=>(0,(dF l at_ e).2.1,jf (dF l at_ e).2.2 41)
 | some d=>(d,(dF l at_ e).2.1,(dF l at_ e).2.2)
def nZ (l:L8) (at_:Nat) (e:Int) (second:Bool):Nat×Nat×Int:=
 let d0:=eH l at_ e
 let e1:=if second=true/\d0.1≠13 then jf d0.2.2 41 else d0.2.2
 let d1:=eH l d0.2.1 e1
 let n1:=16*d0.1+d1.1
 let e2:=if second≠decide (220<=n1/\n1<=223)then jf d1.2.2 41 else d1.2.2
 let d2:=eH l d1.2.1 e2
 let n2:=16*n1+d2.1
 let d3:=eH l d2.2.1 d2.2.2
 (16*n2+d3.1,d3.2.1,d3.2.2)
variable {at_:Nat}
def take_at {l:L8} {e:Int} (h:at_<=l.length):(dF l at_ e).2.1<=l.length:=by
 unfold dF
 split
 .exact h
 split
 .exact h
 dsimp only;omega
def sF {l:L8} {e:Int} (h:at_<=l.length):(eH l at_ e).2.1<=l.length:=by
 unfold eH
 split<;>exact take_at h
def u7 (l:L8) (at_:Nat) (e:Int):(eH l at_ e).1<16:=by
 unfold eH
 split
 .exact Nat.zero_lt_succ 15
 rename_i h;exact afC h
def TQ {l:L8} {e:Int} {s:Bool} (h:at_<=l.length):(nZ l at_ e s).2.1<=l.length:=sF (sF (sF (sF h)))
def FR {l:L8} {at_:Nat} {e:Int} {c:UInt8} (h:at_<=l.length):(jX l at_ e c).1<=l.length:=take_at h
variable {w:Wd} {l:L8}
variable {b:Nat} {F:NP}
def oN {e:Int} (k:Int) (hp:(tH b l at_ e).ok F w):aQ prog 331 [av b,I k] w λr w'=>r=.tuple #[]/\Turn F (tH b l at_ (jf e k)) w w':=by
 have H:=Sep.bW hp;unfold tH at H;refine bU func331 ?_;refine Cz (λS=>?_) (λS=>?_)
 .have ak:jf e k=k:=zac S
  refine Uz (λ_ a=>?_);refine V0 ?_;exact⟨rfl,by rw[ak];exact a.turn⟩
 have ak:jf e k=e:=zaa S;refine V0 ?_;exact⟨rfl,by rw[ak];exact H.turn⟩
variable {e:Int}
def MW (hp:(tH b l at_ e).ok F w) (hl:l.length<=1000000) (ha:at_<=l.length):aQ prog 356 [av b] w λr w'=>r=B (dF l at_ e).1/\Turn F (tH b l (dF l at_ e).2.1 (dF l at_ e).2.2) w w':=by
 have H:=Sep.bW hp;unfold tH at H;obtain⟨res,ak⟩: ∃res,res=dF l at_ e:=⟨_,rfl⟩;rw[<-ak];unfold dF at ak;refine dh func356 ?_;refine Cz (λk=>?_) (λk=>?_)
 .rw[zac k]at ak
  refine V1 ?_;exact⟨by rw[ak];rfl,by rw[ak];exact H.turn⟩
 have k:=k;rw[zaa k]at ak;refine Dz (λS _ I=>?_);refine O10 ?_;refine fO S kR ?_;refine Cz (λS=>?_) (λS=>?_)
 .rw[zac oM]at ak
  refine V1 ?_;obtain⟨F0,eO,gQ,aK⟩:=I.focus At0;refine aL (oN (l:=l) 3 eO) rfl rfl (λv' _ hv=>?_);obtain⟨rfl,cK,F1,hq,hs⟩:=hv;have S:=aK _ F1 _ cK hq hs;have he0:e=0:=zcq.1 k;have Mr:jf e 3=3:=zac he0;rw[Mr]at S;refine V1 ?_;exact⟨by rw[ak];rfl,by rw[ak];exact S.turn⟩
 rw[zaa oM]at ak;refine V4 ?_;refine Vc ((at_+1:Nat):Int) ?_;refine Uz (λ_ _=>?_);refine Dz (λS _ I=>?_);refine V8 ?_;refine Gc S 8 (at_:Int) ?_;refine GS (Gn rfl (λ_=>(Gives.zu rfl rfl oM)) ?_);refine V1 ?_;exact⟨by rw[ak];rfl,by rw[ak];have he0:e=0:=zcq.1 k;rw[he0]at I;exact I.turn⟩
def MX {b at_:Nat} {e:Int} (c:UInt8) (hp:(tH b l at_ e).ok F w) (hl:l.length<=1000000) (ha:at_<=l.length):aQ prog 330 [av b,B c] w λr w'=>r=.tuple #[]/\Turn F (tH b l (jX l at_ e c).1 (jX l at_ e c).2) w w':=by
  have H:=Sep.bW hp;refine bU func330 ?_;refine V1 ?_;obtain⟨F0,eO,gQ,aK⟩:=H.focus At0;refine aL (MW (l:=l) eO hl ha) rfl rfl (λv' _ hv=>?_);obtain⟨rfl,cK,F1,hq,hs⟩:=hv;have k:=aK _ F1 _ cK hq hs;refine Cz (λS=>?_) (λS=>?_)
  . have ak:jX l at_ e c=((dF l at_ e).2.1,jf (dF l at_ e).2.2 41):=by
      unfold jX;rw[zaa (λh=>S (by rw[h]))]
    refine V1 ?_;obtain⟨F0,eO,gQ,aK⟩:=k.focus At0;refine aL (oN (l:=l) 41 eO) rfl rfl (λv' _ hv=>?_);obtain⟨rfl,cK,F1,hq,hs⟩:=hv;have I:=aK _ F1 _ cK hq hs;refine V0 ?_;exact⟨rfl,by rw[ak];exact I.turn⟩
  have ak:jX l at_ e c=((dF l at_ e).2.1,(dF l at_ e).2.2):=by
    unfold jX;rw[zac (UInt8.toNat_inj.1 (by have h:=S;omega))]
  refine V0 ?_;exact⟨rfl,by rw[ak];exact k.turn⟩
def Ma (l:L8):iq l=if(Lib.decodeGo ⟨l.toArray⟩).1=65533/\(Lib.decodeGo ⟨l.toArray⟩).2<2 then none else some (Lib.decodeGo ⟨l.toArray⟩):=by
 by_cases h0:l=[]
 .subst h0;rfl
 have hd:Lib.decodeGo ⟨l.toArray⟩=decodeL l:=by
  unfold Lib.decodeGo;rw[zaa (by rw[Mw.size_mk];exact λe=>h0 (zbg e))];rfl
 rw[hd];cases hn:iq l with
 | none=>
  unfold iq at hn
  split at hn
  .rename_i h
   rcases h with h | ⟨h1,h2⟩
   .exact zas h h0
   rw[zac ⟨h1,oM⟩]
  cases hn
 | some p=>
  obtain⟨r,n⟩:=p;obtain⟨e1,h1,_,_⟩:=uP hn;rw[e1,zaa];rintro⟨h2,h3⟩;dsimp only at h2 h3;unfold iq at hn;rw[zac (.inr ⟨by rw[e1];exact h2,by rw[e1];dsimp only;omega⟩)]at hn;cases hn
def agC (l:L8) (hT:ny w):Rk prog 358 [str l] w (.tuple #[I32 (lg l).1,I (lg l).2,.bool (iq l).isSome]):=by
 have H:=Sep.aH w;refine dh func358 ?_;refine Kz (rE (Tryz.utf8_DecodeRuneInString ⟨l.toArray⟩ _ (hT.keep H.kept))) (λ_ k _=>?_);refine Sz (λS=>?_) (λS=>?_)
 .have hr:=S
  refine Cz (λa=>?_) (λa=>?_)
  .have ak:=Ma l
   rw[zac ⟨oM,oM⟩]at ak;have Y5:lg l=(0,0):=by unfold lg;rw[ak];rfl
   refine V3 ?_;exact⟨by rw[Y5,ak];rfl,k.kept⟩
  have ak:=Ma l;rw[zaa (λh=>oM)]at ak;refine V5 ?_;have ak:=Ma l;rw[zaa oM]at ak;have Y5:lg l=Lib.decodeGo ⟨l.toArray⟩:=by unfold lg;rw[ak];rfl
  exact⟨by rw[Y5,ak];rfl,k.kept⟩
 have hr:=S;refine V6 ?_;have ak:=Ma l;rw[zaa oM]at ak;have Y5:lg l=Lib.decodeGo ⟨l.toArray⟩:=by unfold lg;rw[ak];rfl
 exact⟨by rw[Y5,ak];rfl,k.kept⟩
def aq5 (c:UInt8):bits .or .u8 (c.toNat:Int) 32=((c||| 32).toNat:Int):=by
 have key: ∀i:Fin 256,bits .or .u8 (i.val:Int) 32=((i.val.toUInt8||| 32).toNat:Int):=by decide+kernel
 have:=key ⟨c.toNat,c.toNat_lt⟩;have e:(c.toNat).toUInt8=c:=sM;simpa only[e]using this
def adL (c:UInt8):nS c=if Lib.indexByte tT (c||| 32)<0\/c.toNat<48\/(57<c.toNat/\c.toNat<65)then none else some (Lib.indexByte tT (c||| 32)).toNat:=by
 have key: ∀i:Fin 256,nS i.val.toUInt8=if Lib.indexByte tT (i.val.toUInt8||| 32)<0\/i.val.toUInt8.toNat<48\/(57<i.val.toUInt8.toNat/\i.val.toUInt8.toNat<65)then none else some (Lib.indexByte tT (i.val.toUInt8||| 32)).toNat:=by decide+kernel
 have:=key ⟨c.toNat,c.toNat_lt⟩;have e:(c.toNat).toUInt8=c:=sM;simpa only[e]using this
def Dk (hp:(tH b l at_ e).ok F w) (hl:l.length<=1000000) (ha:at_<=l.length):aQ prog 367 [av b] w λr w'=>r=I (eH l at_ e).1/\Turn F (tH b l (eH l at_ e).2.1 (eH l at_ e).2.2) w w':=by
 have H:=Sep.bW hp;obtain⟨c,hc⟩: ∃c,c=(dF l at_ e).1:=⟨_,rfl⟩;have VB:=c.toNat_lt;have A8:=adL c;refine dh func367 ?_;refine V2 ?_;obtain⟨F0,eO,gQ,aK⟩:=H.focus At0;refine aL (MW (l:=l) eO hl ha) rfl rfl (λv' _ hv=>?_);obtain⟨rfl,cK,F1,hq,hs⟩:=hv;have k:=aK _ F1 _ cK hq hs;rw[<-hc];refine V2 ?_;refine Vv (Gives.orE rfl rfl (aq5 c)) (eG (zV tT (c||| 32)) (h:=?_));refine Sz (λS=>?_) (λS=>?_)
 .refine V4 ?_
  have ak:eH l at_ e=(0,(dF l at_ e).2.1,jf (dF l at_ e).2.2 41):=by
   unfold eH;rw[<-hc,A8,zac oM]
  obtain⟨F0,eO,gQ,aK⟩:=k.focus At0;refine aL (oN (l:=l) 41 eO) rfl rfl (λv' _ hv=>?_);obtain⟨rfl,cK,F1,hq,hs⟩:=hv;have S:=aK _ F1 _ cK hq hs;refine V1 ?_;exact⟨by rw[ak];rfl,by rw[ak];exact S.turn⟩
 refine Sz (λS=>?_) (λS=>?_)
 .refine V2 ?_
  have ak:eH l at_ e=(0,(dF l at_ e).2.1,jf (dF l at_ e).2.2 41):=by
   unfold eH;rw[<-hc,A8,zac oM]
  obtain⟨F0,eO,gQ,aK⟩:=k.focus At0;refine aL (oN (l:=l) 41 eO) rfl rfl (λv' _ hv=>?_);obtain⟨rfl,cK,F1,hq,hs⟩:=hv;have S:=aK _ F1 _ cK hq hs;refine V1 ?_;exact⟨by rw[ak];rfl,by rw[ak];exact S.turn⟩
 refine Sz (λS=>?_) (λS=>?_)
 .refine Cz (λS=>?_) (λS=>?_)
  .refine V1 ?_
   have ak:eH l at_ e=(0,(dF l at_ e).2.1,jf (dF l at_ e).2.2 41):=by
    unfold eH;rw[<-hc,A8,zac oM]
   obtain⟨F0,eO,gQ,aK⟩:=k.focus At0;refine aL (oN (l:=l) 41 eO) rfl rfl (λv' _ hv=>?_);obtain⟨rfl,cK,F1,hq,hs⟩:=hv;have S:=aK _ F1 _ cK hq hs;refine V1 ?_;exact⟨by rw[ak];rfl,by rw[ak];exact S.turn⟩
  refine V2 ?_
  have ak:eH l at_ e=((Lib.indexByte tT (c||| 32)).toNat,(dF l at_ e).2.1,(dF l at_ e).2.2):=by
   unfold eH;rw[<-hc,A8,zaa oM]
  have hn:(((Lib.indexByte tT (c||| 32)).toNat:Nat):Int)=Lib.indexByte tT (c||| 32):=zcs oM;exact⟨by rw[ak];show _=I (((Lib.indexByte tT (c||| 32)).toNat:Nat):Int);rw[hn];rfl,by rw[ak];exact k.turn⟩
 refine V4 ?_
 have ak:eH l at_ e=((Lib.indexByte tT (c||| 32)).toNat,(dF l at_ e).2.1,(dF l at_ e).2.2):=by
  unfold eH;rw[<-hc,A8,zaa oM]
 have hn:(((Lib.indexByte tT (c||| 32)).toNat:Nat):Int)=Lib.indexByte tT (c||| 32):=zcs oM;exact⟨by rw[ak];show _=I (((Lib.indexByte tT (c||| 32)).toNat:Nat):Int);rw[hn];rfl,by rw[ak];exact k.turn⟩
def TR {a:Nat} (ha:a<268435456) (hb:b<16):bits .or .i64 ((16*a:Nat):Int) (b:Int)=((16*a+b:Nat):Int):=by
 have key:16*a||| b=16*a+b:=(Nat.two_pow_add_eq_or_of_lt (i:=4) hb a).symm
 show IntKind.i64.wrap ((BitVec.ofInt 64 ((16*a:Nat):Int)||| BitVec.ofInt 64 (b:Int)).toNat:Int)=_
 rw[BitVec.toNat_or,ofInt_u64 _ oM,ofInt_u64 _ oM,key,IntKind.wrap_i64];omega
def TS {a:Nat} (ha:a<268435456):IntKind.i64.wrap ((a:Int)*2^(Min.min (4:Int).toNat IntKind.i64.bits))=((16*a:Nat):Int):=by
 show IntKind.i64.wrap ((a:Int)*16)=_
 rw[IntKind.wrap_i64];omega
theorem WL (second:Bool) (hp:(tH b l at_ e).ok F w) (hl:l.length<=1000000) (ha:at_<=l.length):aQ prog 357 [av b,.bool second] w λr w'=>r=I32 (nZ l at_ e second).1/\Turn F (tH b l (nZ l at_ e second).2.1 (nZ l at_ e second).2.2) w w':=by
 have H:=Sep.bW hp;obtain⟨d0,hd0⟩: ∃d,d=eH l at_ e:=⟨_,rfl⟩;have h0l:=u7 l at_ e;have h0a:=sF (e:=e) ha;rw[<-hd0]at h0l h0a;obtain⟨e1,Lj⟩: ∃e1,e1=if second=true/\d0.1≠13 then jf d0.2.2 41 else d0.2.2:=⟨_,rfl⟩
 obtain⟨d1,hd1⟩: ∃d,d=eH l d0.2.1 e1:=⟨_,rfl⟩;have h1l:=u7 l d0.2.1 e1;have h1a:=sF (e:=e1) h0a;rw[<-hd1]at h1l h1a;obtain⟨n1,AZ⟩: ∃n,n=16*d0.1+d1.1:=⟨_,rfl⟩;obtain⟨e2,VD⟩: ∃e2,e2=if second≠decide (220<=n1/\n1<=223)then jf d1.2.2 41 else d1.2.2:=⟨_,rfl⟩
 obtain⟨d2,G8⟩: ∃d,d=eH l d1.2.1 e2:=⟨_,rfl⟩;have h2l:=u7 l d1.2.1 e2;have h2a:=sF (e:=e2) h1a;rw[<-G8]at h2l h2a;obtain⟨d3,hd3⟩: ∃d,d=eH l d2.2.1 d2.2.2:=⟨_,rfl⟩;have h3l:=u7 l d2.2.1 d2.2.2;have h3a:=sF (e:=d2.2.2) h2a;rw[<-hd3]at h3l h3a
 have ak:nZ l at_ e second=(16*(16*n1+d2.1)+d3.1,d3.2.1,d3.2.2):=by
  rw[hd3,G8,VD,AZ,hd1,Lj,hd0];rfl
 refine bU func357 ?_;refine V2 ?_;obtain⟨F0,eO,gQ,aK⟩:=H.focus At0;refine aL (Dk (l:=l) eO hl ha) rfl rfl (λv' _ hv=>?_);obtain⟨rfl,cK,F1,hq,hs⟩:=hv;have k:=aK _ F1 _ cK hq hs;rw[<-hd0];rw[<-hd0]at k;refine Am ?_;refine Qn (dB (λ_:Unit=>[(0,av b),(1,.bool second),(5,I d0.1)]) (λ_ w'=>Sep w F [tH b l d0.2.1 e1] w') ?_ ?_)
 .refine V2 ?_
  refine dL (t:=9) rfl (λS=>?_) (λS=>?_)
  .have arP:second=true:=S
   refine Cz (λa=>?_) (λa=>?_)
   .have Y6:jf d0.2.2 41=e1:=by rw[Lj,zac ⟨arP,λh=>a (by rw[h];rfl)⟩]
    refine V1 ?_;obtain⟨F0,eO,gQ,aK⟩:=k.focus At0;refine aL (oN (l:=l) 41 eO) rfl rfl (λv' _ hv=>?_);obtain⟨rfl,cK,F1,hq,hs⟩:=hv;have c:=aK _ F1 _ cK hq hs;refine V0 ?_;rw[Y6]at c;exact au () tR c
   have Y6:d0.2.2=e1:=by rw[Lj,zaa (λh=>h.2 (by have h2:=a;omega))]
   refine V0 ?_;rw[Y6]at k;exact au () tR k
  have Y6:d0.2.2=e1:=by rw[Lj,zaa (λh=>by have h2:=S;rw[h.1]at h2;cases h2)]
  refine V1 ?_;rw[Y6]at k;exact au () tR k
 intro _ τ c c;refine Lp ?_;refine V1 ?_;refine Vv (Gives.agA rfl rfl oM (TS oM)) (Mv ?_);obtain⟨F0,eO,gQ,aK⟩:=c.focus At0;refine aL (Dk (l:=l) eO hl h0a) rfl rfl (λv' _ hv=>?_);obtain⟨rfl,cK,F1,hq,hs⟩:=hv;have c:=aK _ F1 _ cK hq hs;rw[<-hd1];rw[<-hd1]at c;refine Vv (Gives.orE rfl rfl (TR oM h1l)) ?_;rw[<-AZ];refine Am ?_;refine Qn (dB (λ_:Unit=>[(0,av b),(1,.bool second),(5,I n1)]) (λ_ w'=>Sep w F [tH b l d1.2.1 e2] w') ?_ ?_)
 .refine Sz (λa=>?_) (λa=>?_)
  .have hb:decide (220<=n1/\n1<=223)=decide ((n1:Int)<=223):=zbf.2 (by have h:=a;omega)
   refine O4 ?_;refine Qn (Cd rfl (λS=>?_) (λS=>?_))
   .have Y6:jf d1.2.2 41=e2:=by rw[VD,zac (λh=>by have h2:=S;rw[<-hb,h]at h2;simp at h2)]
    refine V1 ?_;obtain⟨F0,eO,gQ,aK⟩:=c.focus At0;refine aL (oN (l:=l) 41 eO) rfl rfl (λv' _ hv=>?_);obtain⟨rfl,cK,F1,hq,hs⟩:=hv;have k:=aK _ F1 _ cK hq hs;refine V0 ?_;rw[Y6]at k;exact au () tR k
   have Y6:d1.2.2=e2:=by rw[VD,zaa (λh=>h (by have h2:=S;rw[hb];revert h2;first | (cases second<;>simp;done) | (generalize decide ((n1:Int)<=223)=D;cases second<;>cases D<;>simp)))]
   refine V0 ?_;rw[Y6]at c;exact au () tR c
  have hb:decide (220<=n1/\n1<=223)=false:=zal (by have h:=a;omega);refine O2 ?_;refine Qn (Cd rfl (λk=>?_) (λk=>?_))
  .have Y6:jf d1.2.2 41=e2:=by rw[VD,zac (λh=>by have h2:=k;rw[<-hb,h]at h2;simp at h2)]
   refine V1 ?_;obtain⟨F0,eO,gQ,aK⟩:=c.focus At0;refine aL (oN (l:=l) 41 eO) rfl rfl (λv' _ hv=>?_);obtain⟨rfl,cK,F1,hq,hs⟩:=hv;have S:=aK _ F1 _ cK hq hs;refine V0 ?_;rw[Y6]at S;exact au () tR S
  have Y6:d1.2.2=e2:=by rw[VD,zaa (λh=>h (by have h2:=k;rw[hb];revert h2;first | (cases second<;>simp;done) | (generalize decide ((n1:Int)<=223)=D;cases second<;>cases D<;>simp)))]
  refine V0 ?_;rw[Y6]at c;exact au () tR c
 intro _ τ S S;refine Lp ?_;refine V1 ?_;refine Vv (Gives.agA rfl rfl oM (TS oM)) (Mv ?_);obtain⟨F0,eO,gQ,aK⟩:=S.focus At0;refine aL (Dk (l:=l) eO hl h1a) rfl rfl (λv' _ hv=>?_);obtain⟨rfl,cK,F1,hq,hs⟩:=hv;have S:=aK _ F1 _ cK hq hs;rw[<-G8];rw[<-G8]at S;refine Vv (Gives.orE rfl rfl (TR oM h2l)) (V2 ?_);refine Vv (Gives.agA rfl rfl oM (TS oM)) (Mv ?_);obtain⟨F0,eO,gQ,aK⟩:=S.focus At0;refine aL (Dk (l:=l) eO hl h2a) rfl rfl (λv' _ hv=>?_);obtain⟨rfl,cK,F1,hq,hs⟩:=hv;have S:=aK _ F1 _ cK hq hs;rw[<-hd3];rw[<-hd3]at S;refine Vv (Gives.orE rfl rfl (TR oM h3l)) (V2 ?_);exact⟨by rw[ak];rfl,by rw[ak];exact S.turn⟩
def aoM {x:Nat} (h:x<256):bits .and .u8 (x:Int) 7=((x%8:Nat):Int):=by
 have key: ∀i:Fin 256,i.val&&& 7=i.val%8:=dC;have:=u8_and_nat x 7 h dC;rw[key ⟨x,h⟩]at this;exact this
def ajX (l:L8) (hl:l.length<=1000000) (hT:ny w):aQ prog 359 [str l] w λv w'=>(∃b,v=.bool b)/\Kept noB w w':=by
 have H:=Sep.aH w;refine dh func359 ?_;refine Cz (λVm=>?_) (λVm=>?_)
 .refine V1 ?_
  exact⟨⟨_,rfl⟩,H.kept⟩
 refine V1 ?_;refine Vv (Gives.zu (i:=0) rfl rfl oM) ?_;have Et:=(l.getD 0 0).toNat_lt;refine Vv (Gives.BO (i:=(l.getD 0 0).toNat) rfl rfl oM) ?_;rw[Addr.add_lit];refine ahj (by rw[zdc,zfd];exact(hT.keep H.kept).1 _ Et) rfl rfl ?_;refine V3 ?_;obtain⟨v,hv⟩: ∃v,v=Lib.firstT (l.getD 0 0).toNat:=⟨_,rfl⟩;have Tt:v<256:=by have:=Lib.firstT_cases (l.getD 0 0).toNat;omega
 rw[<-hv];refine Vv (Gives.EC rfl rfl (aoM Tt)) (Vv (Gives.qx (c:=((v%8:Nat):Int)) rfl (by rw[IntKind.wrap_i64];omega)) ?_);refine Cz (λIe=>?_) (λIe=>?_)
 .refine V1 ?_
  exact⟨⟨_,rfl⟩,H.kept⟩
 refine V1 ?_;refine Vv (Gives.ED (m:=v) (s:=4) rfl rfl dC) ?_;obtain⟨q,hq⟩: ∃q,q=v/2^4:=⟨_,rfl⟩;have jB:q<16:=oM;rw[<-hq];refine Vv (Gives.BO (i:=q) rfl rfl oM) ?_;rw[Addr.add_lit,zdc]
 refine aey (us:=[.int .u8 (Lib.accLo q),.int .u8 (Lib.accHi q)]) (λj u hj=>by
  obtain⟨h1,h2⟩:=(hT.keep H.kept).2 q jB;rw[Addr.add_lit]
  match j,hj with
  | 0,hj=>injection hj with hj;subst hj;rw[zfb,Nat.mul_comm,zdc];exact h1
  | 1,hj=>injection hj with hj;subst hj;rw[Nat.mul_comm,zdc];exact h2) rfl rfl rfl ?_
 refine Az (λb27 wa Ha ka=>?_);refine Tz (λwb Hb=>?_);refine Dz (λSa wc Hc=>?_);refine V3 ?_;refine fK (t:=25) rfl (λSb=>?_) (λSb=>?_)
 .refine V1 ?_
  refine Gp Sa 4 rfl rfl (λ_=>(Gives.zu (i:=1) rfl rfl oM)) (V4 ?_);refine fK (t:=31) rfl (λSc=>?_) (λSc=>?_)
  .refine V3 ?_
   exact⟨⟨_,rfl⟩,Hc.kept⟩
  refine V3 ?_;refine Gp Sa 12 rfl rfl (λ_=>(Gives.zu (i:=1) rfl rfl oM)) (O3 ?_);refine fO Sa kR ?_;refine Cz (λIf=>?_) (λIf=>?_)
  .refine V1 ?_
   exact⟨⟨_,rfl⟩,Hc.kept⟩
  refine Sz (λSd=>?_) (λSd=>?_)
  .refine V1 ?_
   refine Vv (Gives.zu (i:=2) rfl rfl oM) (Sz (λSe=>?_) (λSe=>?_))
   .refine V3 ?_
    exact⟨⟨_,rfl⟩,Hc.kept⟩
   refine V1 ?_;refine Vv (Gives.zu (i:=2) rfl rfl oM) (Cz (λIg=>?_) (λIg=>?_))
   .refine V1 ?_
    exact⟨⟨_,rfl⟩,Hc.kept⟩
   refine V1 ?_;exact⟨⟨_,rfl⟩,Hc.kept⟩
  refine V2 ?_;exact⟨⟨_,rfl⟩,Hc.kept⟩
 refine Sz (λSf=>?_) (λSf=>?_)
 .refine V1 ?_
  refine Vv (Gives.zu (i:=2) rfl rfl oM) (Sz (λSg=>?_) (λSg=>?_))
  .refine V3 ?_
   exact⟨⟨_,rfl⟩,Hc.kept⟩
  refine V1 ?_;refine Vv (Gives.zu (i:=2) rfl rfl oM) (Cz (λIh=>?_) (λIh=>?_))
  .refine V1 ?_
   exact⟨⟨_,rfl⟩,Hc.kept⟩
  refine V1 ?_;exact⟨⟨_,rfl⟩,Hc.kept⟩
 refine V2 ?_;exact⟨⟨_,rfl⟩,Hc.kept⟩
def EF {w':Wd} {o:Nat} {v:Value} (hk:Kept F w w') (hF: ¬F b) (h:w.cell? ⟨b,o,none⟩=some v):w'.cell? ⟨b,o,none⟩=some v:=by
 have aX:b<w.heap.size:=by
  refine Classical.byContradiction λhn=>?_;unfold World.cell? at h;rw[zdk dO]at h;cases h
 unfold World.cell? at h ⊢;rw[hk.block b aX hF];exact h
def ny.aoN {w':Wd} (h:ny w) (hk:Kept F w w') (h1: ¬F 4) (h2: ¬F 5):ny w':=
 ⟨λc hc=>EF hk h1 (h.1 c hc),λi hi=>⟨EF hk h2 (h.2 i hi).1,EF hk h2 (h.2 i hi).2⟩⟩
def WM {w':Wd} (hp:(tH b l at_ e).ok F w) (h:ny w) (hk:Kept F w w'):ny w':=by
 have hc:w.cell? ⟨b,0,none⟩=some (str l):=by
  unfold World.cell?;have:=hp.2;simp only[this];rfl
 refine h.aoN hk (λhF=>?_) (λhF=>?_)
 .have hb:=(hp.1 _).1 hF
  have h0:=h.1 0 dC;rw[<-hb]at hc;have h1:=hc.symm.trans h0;cases h1
 have hb:=(hp.1 _).1 hF;have h0:=(h.2 0 dC).1;rw[<-hb]at hc;have h1:=hc.symm.trans h0;cases h1
def nP (l:L8) (at_:Nat):L8×Nat×Bool:=
 if(l.getD at_ 0).toNat<32 then([],at_,false)else match iq (l.drop at_)with
  | some (_,n)=>((l.drop at_).take n,at_+n,true)
  | none=>([],at_,false)
def adM {b at_:Nat} (hp:(tH b l at_ 0).ok F w) (hl:l.length<=1000000) (ha:at_<l.length) (hT:ny w):aQ prog 333 [av b] w λr w'=>∃x:Int,r=str (nP l at_).1/\((nP l at_).2.2=true↔x=0)/\Turn F (tH b l (nP l at_).2.1 x) w w':=by
 have H:=Sep.bW hp;unfold tH at H;obtain⟨res,ak⟩: ∃res,res=nP l at_:=⟨_,rfl⟩;rw[<-ak];unfold nP at ak;have hdl:(l.drop at_).length=l.length-at_:=zbo;have hg0:(l.drop at_).getD 0 0=l.getD at_ 0:=by simp[zaz]
 refine dh func333 ?_;refine Dz (λ_ _ k=>?_);refine V8 ?_;refine GS (Gn rfl (λ_=>(Gives.qc (l:=l) (i:=at_) rfl rfl oM)) ?_);refine Kz (agC (l.drop at_) (WM hp hT k.kept)) (λ_ k _=>?_);refine V8 ?_;refine Vv (Gives.zu (i:=0) rfl rfl oM) ?_;rw[hg0];refine Cz (λS=>?_) (λS=>?_)
 .rw[zac oM]at ak
  refine V1 ?_;obtain⟨F0,eO,gQ,aK⟩:=k.focus At0;refine aL (oN (l:=l) 41 eO) rfl rfl (λv' _ hv=>?_);obtain⟨rfl,cK,F1,hq,hs⟩:=hv;have S:=aK _ F1 _ cK hq hs;refine V1 ?_;exact⟨41,by rw[ak];rfl,by rw[ak];simp,by rw[ak];exact S.turn⟩
 rw[zaa oM]at ak;refine O2 ?_;refine Qn (Cd rfl (λS=>?_) (λS=>?_))
 .obtain⟨⟨r,n⟩,hn⟩:=Option.isSome_iff_exists.1 S
  obtain⟨_,AZ,Ms,_⟩:=uP hn;have hnp:lg (l.drop at_)=(r,n):=by unfold lg;rw[hn];rfl
  rw[hn]at ak;rw[hdl]at Ms;rw[hnp];refine V5 ?_;refine Vv (Gives.TB (c:=((at_+n:Nat):Int)) rfl rfl (by show(at_:Int)+(n:Int)=_;omega) oM) (Uz (λ_ I=>?_));refine V2 ?_;refine Vv (Gives.sQ (l:=l.drop at_) (i:=n) rfl rfl oM) (V1 ?_);exact⟨0,by rw[ak];rfl,by rw[ak];simp,by rw[ak];exact I.turn⟩
 have hn:iq (l.drop at_)=none:=by
  cases h:iq (l.drop at_)with
  | none=>rfl
  | some y=>rw[h]at S;cases S
 rw[hn]at ak;refine V1 ?_;refine aL (ajX (l.drop at_) oM (WM hp hT k.kept)) rfl rfl (λv' _ hv=>?_);obtain⟨⟨bf,rfl⟩,cK⟩:=hv;have I:=k.keep cK;refine O2 ?_;refine Qn (Cd rfl (λk=>?_) (λk=>?_))
 .refine V1 ?_
  obtain⟨F0,eO,gQ,aK⟩:=I.focus At0;refine aL (oN (l:=l) 3 eO) rfl rfl (λv' _ hv=>?_);obtain⟨rfl,cK,F1,hq,hs⟩:=hv;have k:=aK _ F1 _ cK hq hs;refine V1 ?_;exact⟨3,by rw[ak];rfl,by rw[ak];simp,by rw[ak];exact k.turn⟩
 refine V1 ?_;obtain⟨F0,eO,gQ,aK⟩:=I.focus At0;refine aL (oN (l:=l) 40 eO) rfl rfl (λv' _ hv=>?_);obtain⟨rfl,cK,F1,hq,hs⟩:=hv;have k:=aK _ F1 _ cK hq hs;refine V1 ?_;exact⟨40,by rw[ak];rfl,by rw[ak];simp,by rw[ak];exact k.turn⟩
def aoO:ownKnob prog.godebug=none:=by kernel_rfl
def amH:laidOutB prog=true:=by kernel_rfl
def ab4:List (String×DataW Unit):=[("math/bits.deBruijn32tab",Rows.laid_math_bits_deBruijn32tab),("math/bits.deBruijn64tab",Rows.laid_math_bits_deBruijn64tab),("internal/strconv.uint64pow10",Rows.laid_internal_strconv_uint64pow10),("unicode/utf8.acceptRanges",Rows.laid_unicode_utf8_acceptRanges),("strconv.ErrRange",Rows.laid_strconv_ErrRange),("strconv.ErrSyntax",Rows.laid_strconv_ErrSyntax),("unicode/utf8.first",Rows.laid_unicode_utf8_first)]
def ajY:U8Extra prog Tryz.lays260_ren:=⟨kR,kR,kR,kR,kR,kR,kR⟩
def agD:Rows.laid_unicode_utf8_first=firstData:=Pinned.utf8First_eq
def adN:(Rows.laid_unicode_utf8_acceptRanges:DataW Unit)=acceptData:=by kernel_rfl
def pow_eq:(Rows.laid_internal_strconv_uint64pow10:DataW Unit)=tabData .u64 pow10Tab:=by kernel_rfl
def ab5: "*" ++ "errors.errorString" = "*errors.errorString" :=dC
def agE (u:Td) (h:prog.typeName? 3 u=some "*errors.errorString"):u=386:=
 typeName_ptr_named (nm:= "errors.errorString") (by rw[ab5];kernel_rfl) kR dC u (by rw[ab5];exact h)
def WO:prog.cellsOf 388=1:=by kernel_rfl
def WQ:prog.cellsOf 9=1:=by kernel_rfl
variable {n:Nat}
def agF {W:Wd} (h0:laidMetH prog ab4 W) (Vi:W.ShapedOpen prog):gT W:=by
 rw[MakeChecks.laidMetH_plain _ _ _ kR]at h0;have h:=h0;refine⟨?_,?_,?_,?_,?_⟩
 .exact utf8Tabs_of_reads Tryz.lays260 ajY (agD▸Lib.laidMet.reads h (by unfold ab4;simp)) (adN▸Lib.laidMet.reads h (by unfold ab4;simp))
 .obtain⟨g,t,cs,fuel,p,hg,hty,hvar,hd⟩:=Lib.laidMet.reads (n:= "internal/strconv.uint64pow10") h (by unfold ab4;exact .tail _ (.tail _ (.head _)))
  have hg':prog.globalNamed "internal/strconv.uint64pow10" =some 3:=kR;obtain rfl:=Option.some.inj (hg'.symm.trans hg);have hty':(prog.globals[3]?).map (·.type)=some 390:=kR;obtain rfl:=Option.some.inj (hty'.symm.trans hty);rw[pow_eq]at hd;have hcs:=cells_of_tab underlying390 underlying229 kR kR hd;unfold Lib.TabIs;rw[hvar,<-hcs]
 .obtain⟨a,s,hv,_⟩:=laid_sentinel (g:=1) (ti:=156) (tp:=386) (te:=388) (ts:=9) h.tail.tail.tail.tail.tail kR kR underlying156 agE underlying386 underlying388 rfl rfl underlying9 WO WQ
  exact⟨_,_,hv⟩
 .obtain⟨a,s,hv,_⟩:=laid_sentinel (g:=2) (ti:=156) (tp:=386) (te:=388) (ts:=9) h.tail.tail.tail.tail kR kR underlying156 agE underlying386 underlying388 rfl rfl underlying9 WO WQ
  exact⟨_,_,hv⟩
 exact Tryz.laysM219.s1_3 W Vi
section
variable {H:Type} {enc:Td×Value->H} {W:Wd} {r:Reach} {base:Nat} {v:Value} {d:DataW H} {ps:List MemPlace}
def TT {n:Int} {k:IntKind} (hk:k=.i64) (h:(Lit.int k n).wf=true):fits n:=by
 subst hk;simp[Lit.wf,IntKind.min,IntKind.max,IntKind.bits,IntKind.signed]at h;unfold fits;omega
def QH {cs:LV} {y:DataW H×List MemPlace} (hl:cs.length=3) (hc:DataW.trod enc prog W 0 (λ_=>true) true n 47 cs=some y): ∃x:aC,cs=ah x/\fits x.n:=by
 have hf:=nO underlying47 kR hc kR hl;obtain⟨v0,_,_,LY,h0⟩:=hf 0 _ rfl;obtain⟨v1,_,_,Tt,h1⟩:=hf 1 _ rfl;obtain⟨v2,_,_,hv2,h2⟩:=hf 2 _ rfl;obtain⟨b,hb,_⟩:=DataW.trod_bool underlying4 h0;obtain⟨m,hm,_,wm⟩:=DataW.trod_int underlying2 h1;obtain⟨s,hs,_⟩:=DataW.trod_string underlying9 h2;injection hb with hb _
 injection hm with hm _
 injection hs with hs _
 subst hb hm hs
 match cs,hl with
 | [c0,c1,c2],_=>
  simp at LY Tt hv2;subst LY Tt hv2;refine⟨⟨b,m,s.data.toList⟩,?_,TT rfl wm⟩;rw[J6];rfl
def adO {cs:LV} {y:DataW H×List MemPlace} (hl:cs.length=2) (hc:DataW.trod enc prog W 0 (λ_=>true) true n 45 cs=some y): ∃x:bR,cs=aD x:=by
 have hf:=nO underlying45 kR hc kR hl;obtain⟨v0,_,_,LY,h0⟩:=hf 0 _ rfl;obtain⟨v1,_,_,Tt,h1⟩:=hf 1 _ rfl;obtain⟨m,hm,_,_⟩:=DataW.trod_int underlying3 h0;obtain⟨b,hb,_⟩:=DataW.trod_bool underlying4 h1;injection hb with hb _
 injection hm with hm _
 subst hb hm
 match cs,hl with
 | [c0,c1],_=>
  simp at LY Tt;subst LY Tt;exact⟨⟨m,b⟩,rfl⟩
def adP {cs:LV} {y:DataW H×List MemPlace} (hl:cs.length=3) (hc:DataW.trod enc prog W 0 (λ_=>true) true n 66 cs=some y): ∃x:bL,cs=aN x/\fits x.n:=by
 have hf:=nO underlying66 kR hc kR hl;obtain⟨v0,_,_,LY,h0⟩:=hf 0 _ rfl;obtain⟨v1,_,_,Tt,h1⟩:=hf 1 _ rfl;obtain⟨v2,_,_,hv2,h2⟩:=hf 2 _ rfl;obtain⟨b,hb,_,_⟩:=DataW.trod_int underlying3 h0;obtain⟨m,hm,_,wm⟩:=DataW.trod_int underlying2 h1;obtain⟨s,hs,_⟩:=DataW.trod_string underlying9 h2;injection hb with hb _
 injection hm with hm _
 injection hs with hs _
 subst hb hm hs
 match cs,hl with
 | [c0,c1,c2],_=>
  simp at LY Tt hv2;subst LY Tt hv2;refine⟨⟨b,m,s.data.toList⟩,?_,TT rfl wm⟩;rw[J6];rfl
def agG {cs:LV} {y:DataW H×List MemPlace} (hl:cs.length=7) (hc:DataW.trod enc prog W 0 (λ_=>true) true n 49 cs=some y): ∃x:bT,cs=aM x:=by
 obtain⟨ys,n',_,_,_,hyl,hf⟩:=DataW.trod_struct underlying49 hc;have hy: ∀j,j<4->∃z,ys[j]? =some z:=λj hj=>⟨_,zab (by rw[hyl];exact hj)⟩;obtain⟨z0,e0⟩:=hy 0 dC;obtain⟨z1,e1⟩:=hy 1 dC;obtain⟨z2,e2⟩:=hy 2 dC;obtain⟨z3,e3⟩:=hy 3 dC;have h0:DataW.trod enc prog W 0 (λ_=>true) true n' 3 ((cs.drop 0).take (prog.cellsOf 3))=some z0:=(hf 0 _ rfl).trans e0;have h1:DataW.trod enc prog W 0 (λ_=>true) true n' 9 ((cs.drop 1).take (prog.cellsOf 9))=some z1:=(hf 1 _ rfl).trans e1;have h2:DataW.trod enc prog W 0 (λ_=>true) true n' 45 ((cs.drop 2).take (prog.cellsOf 45))=some z2:=(hf 2 _ rfl).trans e2;have h3:DataW.trod enc prog W 0 (λ_=>true) true n' 47 ((cs.drop 4).take (prog.cellsOf 47))=some z3:=(hf 3 _ rfl).trans e3;have c0:prog.cellsOf 3=1:=kR;have c1:prog.cellsOf 9=1:=kR;have c2:prog.cellsOf 45=2:=kR;have c3:prog.cellsOf 47=3:=kR
 match cs,hl with
 | [a0,a1,a2,a3,a4,a5,a6],_=>
  rw[c0]at h0;rw[c1]at h1;rw[c2]at h2;rw[c3]at h3;obtain⟨i,hi,_,_⟩:=DataW.trod_int (cs:=[a0]) underlying3 h0;obtain⟨s,hs,_⟩:=DataW.trod_string (cs:=[a1]) underlying9 h1;obtain⟨t,ht⟩:=adO (cs:=[a2,a3]) rfl h2;obtain⟨c,Pg,_⟩:=QH (cs:=[a4,a5,a6]) rfl h3;refine⟨⟨i,s.data.toList,t,c⟩,?_⟩;have ha:[a0,a1,a2,a3,a4,a5,a6]=[a0]++[a1]++[a2,a3]++[a4,a5,a6]:=rfl;rw[ha,hi,hs,ht,Pg,J6];rfl
def yU {α:Type} {f:α->LV} {k c:Nat} {A:OA} {l:List α} (hc:l.length<=c) (hm:c<=maxLen) (h:gZ W A l.length k (l.flatMap f)):aJ W (.slice A l.length c) f k l:=
 ⟨A,c,rfl,⟨hc,by unfold maxLen at hm;omega⟩,h⟩
def adQ (hv:Value.okWide prog W r base 22 v) (h:DataW.Trod enc prog W 0 (λ_=>true) true 22 v d ps): ∃l:List bT,aJ W v aM 7 l:=by
 obtain⟨A,c,l,rfl,h1,h2,h3,h4⟩:=R7 (f:=aM) (good:=λ_:bT=>True) (s:=7) underlying22 kR (λ_=>rfl) (λn cs y hl hc=>(agG hl hc).imp λ_ h=>⟨h,trivial⟩) hv h;exact⟨l,yU h1 h2 h3⟩
end
end Go.Proofs.Mw
