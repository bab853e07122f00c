/-
 The program's cells of bytes as texts,and back,walked.
-/
import Derived.Test.YtjcgliljofbopaaGreatDoorNv13
import Derived.Lib.ItoaLen
import Derived.Test.YtjcgliljofbopaaGreatDoorRows
import Derived.PinnedBridge
import Derived.Stop.LaidErr
import Derived.Deep.DeepHandedRow
import Derived.Lay
import Derived.MakeChecks
set_option linter.all false
set_option maxRecDepth 100000
namespace Go.Proofs.Mw
open Go.Proofs.YtjcgliljofbopaaGreatDoor
open Go.Lib Go.Proofs.Tryz
attribute [local irreducible] FW FL FG FGn jK jO fI lU Qfn Gives
section
def iD:bM:=⟨5,false⟩
def tQ (c:aC):L8×Int:=if gJ iD c=0 then(120::yY c.s,0)else([],gJ iD c)
def afF {c:aC} (h:gJ iD c=0):c.null=false/\c.s.length<=1024:=by
 unfold gJ at h;have e:nZ iD=true:=rfl;rw[e,zab dC]at h;cases hn:c.null with
 | true=>rw[hn,zac rfl]at h;split at h<;>rename_i hx;exact zar hx.1 dC;cases h
 | false=>
  rw[hn,zab dC]at h
  split at h
  .rename_i hx
   have :isC iD.kind c=decide (c.n=0/\c.s.length<=1024):=rfl;rw[this,decide_eq_true_eq]at hx;exact⟨rfl,hx.2⟩
  cases h
section
variable {w:Wd}
def Ml (c:aC) (hf:fits c.n) (hT:mX w):Rk prog 177 [agg (aD iD),agg (ah c)] w (.tuple #[str (tQ c).1,I (tQ c).2]):=by
 have H:=Sep.aF w;refine bQ func177 ?_;refine Sr (bB H (cs:=aD iD) rfl (h:=λb0 _ k _=>?_));refine bB k (h:=λb3 _ k _=>?_);refine Kz (tL iD c hf (hT.keep k.kept)) (λ_ k _=>?_);refine Cz (λS=>?_) (λS=>?_)
 .have ak:tQ c=([],gJ iD c):=zab S
  refine Zb3 ?_;exact⟨by rw[ak];rfl,k.kept⟩
 have dX:gJ iD c=0:=by simpa using S
 have ak:tQ c=(120::yY c.s,0):=zac dX;obtain⟨tu,X9⟩:=afF dX;refine Za2 ?_;refine Qn (Cd rfl (λS=>?_) (λS=>?_))
 .exact zar S (by rw[tu];decide)
 refine Dz (λS _ k=>?_);refine Zb1 ?_;refine jM S 3 k (h:=?_);refine qG S 1 [(3,false)] rfl kR (afs iD dC dC (hT.keep k.kept)) rfl kR kR (λv' _ hv=>?_);obtain⟨⟨isF,rfl,_⟩,bZ⟩:=hv;have a:=k.keep bZ;rw[show A8 iD.kind=kF5 from rfl];refine⟨(bK rfl kR (Gives.JV rfl (a.obj At0) (us:=ah c) rfl rfl) rfl (eu)),?_⟩;refine Zb1 ?_;refine jU S 4 _ (y:=.tmp 17) (f:=214) (fs:=[]) (cs:=[]) (vals:=[agg (ah c)]) rfl (aiU c oM) (h:=λv' _ hv=>?_);obtain⟨rfl,amu⟩:=hv;have k:=a.keep amu;refine⟨sT,?_⟩;refine Zb2 ?_;exact⟨by rw[ak];rfl,k.kept⟩
def YZ (l:L8) (hl:l.length<=1000000) (h0:l.head?=some 120) (hT:mX w):aR prog 236 [agg (aD iD),str l] w λv w'=>(∃e,v=.tuple #[agg (ah ⟨false,0,Gd l⟩),I e])/\Kept noB w w':=by
  have H:=Sep.aF w;obtain⟨s,hs⟩: ∃s,s=sV (l.drop 1):=⟨_,rfl⟩;have hrx:Gd l=if 120::yY s=l/\s.length<=1024 then s else []:=by rw[hs];rfl
  have amB:gJ iD ⟨false,0,s⟩=if s.length<=1024 then 0 else 90:=by
    have e:isC iD.kind ⟨false,0,s⟩=decide ((0:Int)=0/\s.length<=1024):=rfl;have e1:nZ iD=true:=rfl;unfold gJ;rw[e1,zab dC,zab sM,e]
    by_cases h:s.length<=1024<;>simp[h]
  refine sQ func236 ?_;refine Sr (bB H (cs:=aD iD) rfl (h:=λb0 _ _ _=>?_));refine Az (λb3 _ _ _=>?_);refine Kz (zu iD) (λ_ k _=>?_);refine Cz (λS=>?_) (λS=>?_)
  . exact zar S dC
  refine Zb1 ?_;refine aL (afs iD dC dC (hT.keep k.kept)) rfl rfl (λv' _ hv=>?_);obtain⟨⟨isF,rfl,_⟩,bZ⟩:=hv;have S:=k.keep bZ;rw[show A8 iD.kind=kF5 from rfl];refine Zb2 ?_;refine eP (f:=215) (fs:=[]) (cs:=[]) (vals:=[str l]) rfl (acP l hl h0) rfl rfl (λv' _ hv=>?_);obtain⟨rfl,bZ⟩:=hv;have k:=S.keep bZ;rw[<-hs];refine Az (λb19 _ _ _=>?_);refine Tz (λ_ k=>?_);refine Cz (λS=>?_) (λS=>?_)
  . have Yi:l=[110,117,108,108]:=S
    rw[Yi]at h0;cases h0
  refine Kz (Ml ⟨false,0,s⟩ ⟨(by show(-9223372036854775808:Int)<=0;decide),(by show(0:Int)<=9223372036854775807;decide)⟩ (hT.keep k.kept)) (λ_ _ _=>?_);refine Sz (λS=>?_) (λS=>?_)
  . have l9:Gd l=[]:=by
      rw[hrx,zab];rintro⟨_,h2⟩;refine S ?_;unfold tQ;rw[amB,zac h2,zac rfl]
    refine Zb1 ?_;refine Vb (ah cell0) ?_;refine Tz (λ_ k=>?_);refine Zb1 ?_;exact⟨_,bE k,⟨4,by rw[l9];rfl⟩,k.kept⟩
  have hz:s.length<=1024:=by
    refine Classical.byContradiction λh=>S ?_;unfold tQ;rw[amB,zab h,zab dC]
    decide
  have htx:(tQ ⟨false,0,s⟩).1=120::yY s:=by
    unfold tQ;rw[amB,zac hz,zac rfl]
  refine Cz (λk=>?_) (λk=>?_)
  . have l9:Gd l=[]:=by rw[hrx,zab (λh=>k (by rw[htx];exact h.1))]
    refine Sr (Vb (ah cell0) ?_);refine Tz (λ_ S=>?_);refine Zb1 ?_;exact⟨_,bE S,⟨4,by rw[l9];rfl⟩,S.kept⟩
  have EH:Gd l=s:=by rw[hrx,zac ⟨by rw[<-htx];exact zcr.1 k,hz⟩]
  refine Tz (λ_ S=>?_);refine Zb1 ?_;exact⟨_,bE S,⟨0,by rw[EH];rfl⟩,S.kept⟩
end
def Y0 (b:UInt8):Lib.index [] [b]= -1:=rfl
def Mq (b:UInt8) (t:L8):Lib.index (b::t) [b]=0:=by
 unfold Lib.index;rw[zac (by simp[List.isPrefixOf])]
def J2 {b c:UInt8} (h:c≠b) (t:L8):Lib.index (c::t) [b]=if Lib.index t [b]= -1 then -1 else Lib.index t [b]+1:=by
 rw[Lib.index,zab (by simp[List.isPrefixOf];exact λe=>h e.symm)]
 by_cases h1:Lib.index t [b]= -1<;>simp[h1]
def zA (b:UInt8) (new:L8): ∀(s:L8) (k:Nat),s.count b<=k->Lib.replaceK [b] new k s=s.flatMap λc=>if c=b then new else [c]
 | [],0,_=>rfl
 | [],k+1,_=>by rw[Lib.replaceK,Y0,zac dC];rfl
 | c::t,k,hk=>by
  by_cases h:c=b
  .subst h
   rw[List.count_cons_self]at hk;obtain⟨k,rfl⟩: ∃k',k=k'+1:=⟨k-1,oM⟩;rw[Lib.replaceK_hit [c] new k (c::t) 0 (Mq c t),zbh,zac rfl];show []++new++Lib.replaceK [c] new k t=_
   rw[zA c new t k oM];rfl
  rw[List.count_cons_of_ne h]at hk;rw[zbh,zab h,<-zA b new t k hk];cases k with
  | zero=>rfl
  | succ k=>
   rw[Lib.replaceK,Lib.replaceK,J2 h]
   by_cases h1:Lib.index t [b]= -1
   .rw[h1];rfl
   have hge:=Lib.index_ge t [b];have e0: ¬(Lib.index t [b]== -1)=true:=by simpa using h1
   have e1: ¬(Lib.index t [b]+1== -1)=true:=by simp;omega
   rw[zab h1,zab e0,zab e1];have e2:(Lib.index t [b]+1).toNat=(Lib.index t [b]).toNat+1:=oM;have e3:(Lib.index t [b]).toNat+1+[b].length=((Lib.index t [b]).toNat+[b].length)+1:=oM;rw[e2,e3,zcy,zeq];rfl
def Mr (b:UInt8) (new s:L8) (h:new≠[b]):Lib.replaceAll s [b] new=s.flatMap λc=>if c=b then new else [c]:=by
 unfold Lib.replaceAll Lib.replace;rw[zab (by simpa using λe=>h e.symm)];refine zA b new s _ ?_;unfold Lib.replaceNum;rw[zac (.inl dC),Lib.count_one];exact zbj _
def Qb (w:Wd) (k:Nat) (os:Array Obj):Kept noB w (Go.Sort.grow (w.drewN k) os):=by
 refine⟨rfl,rfl,rfl,?_,λb hb _=>?_⟩
 .show w.heap.size<=(w.heap++os).size
  rw[Array.size_append];omega
 show(w.heap++os)[b]? =w.heap[b]?
 rw[Array.getElem?_append_left hb]
section
variable {w:Wd}
def zB (n:Int) (hn:fits n) (hT:iB w):Rk prog 173 [.int .i64 n,I 10] w (str (Lib.itoa n)):=
 Calls.mono (Tryz.strconv_FormatInt_10 n hn.1 hn.2 w hT.pow) λe w' he=>by
  obtain⟨rfl,k,os,rfl⟩:=he;exact⟨rfl,Qb w k os⟩
def DI (b:Bool):aR prog 174 [.bool b] w λv w'=>v=str (if b=true then [116,114,117,101]else [102,97,108,115,101])/\w=w':=
 j6 (by
  have:=Tryz.strconv_FormatBool b w;cases b<;>exact this)
def O1 (l:L8) (hl:l.length<=10000000) (hT:iB w):Rk prog 176 [str l,str [32],str [92,117,48,48,50,48]] w (str (l.flatMap λc=>if c=32 then [92,117,48,48,50,48]else [c])):=by
 obtain⟨m,hm⟩:=hT.len;have h1:=Lib.countB_le ⟨#[32]⟩ dC l.length ⟨l.toArray⟩ (by rw[Mw.size_mk];exact zbj _);rw[Mw.size_mk]at h1
 have:=qZ (Tryz.strings_ReplaceAll ⟨l.toArray⟩ ⟨#[32]⟩ ⟨#[92,117,48,48,50,48]⟩ m w (by rw[Mw.size_mk];omega) hm dC (by
  rw[Mw.size_mk];show l.length+Lib.countB ⟨l.toArray⟩ ⟨#[32]⟩*6<=_
  omega))
 have e:Lib.replaceAll l [32] [92,117,48,48,50,48]=l.flatMap λc=>if c=32 then [92,117,48,48,50,48]else [c]:=Mr 32 _ l dC
 rw[<-e];exact this
def VD:aR prog 178 [] w λv w'=>∃b:Nat,v=.slice (some ⟨b,0,none⟩) 12 12/\True/\Turn noB (blk b (lN.flatMap gN) 9) w w':=by
 have H:=Sep.aF w;refine aaZ func178 ?_;refine Zb1 ?_;refine Bs H (lN.flatMap gN) (λb1 _ k _=>?_);refine Zb1 ?_;exact⟨b1,rfl,trivial,k.turn⟩
def VE (x:bI) (hm:dP x=true) (hf:fits x.n) (hT:iB w):Rk prog 124 [agg (aM x)] w (str (gU x)):=by
 have H:=Sep.aF w;have jF:=BS hf.1 hf.2;obtain⟨res,ak⟩: ∃res,res=gU x:=⟨_,rfl⟩;rw[<-ak];unfold gU at ak;unfold dP at hm;refine cK func124 ?_;refine Sr (bB H (cs:=aM x) rfl (h:=λb0 _ k _=>?_));refine Cz (λS=>?_) (λS=>?_)
 .rw[zac S]at ak hm
  refine Kz (zB x.n hf (hT.keep k.kept)) (λ_ I _=>?_);refine Zb2 ?_;exact⟨by rw[ak];rfl,I.kept⟩
 rw[zab S]at ak hm;refine Cz (λI=>?_) (λI=>?_)
 .rw[zac I]at ak hm
  refine Kz (zB x.n hf (hT.keep k.kept)) (λ_ S _=>?_);refine Zb1 ?_;exact⟨by rw[ak];rfl,S.kept⟩
 rw[zab I]at ak hm;refine Cz (λS=>?_) (λS=>?_)
 .rw[zac S]at ak hm
  refine Zb3 ?_;refine eB (DI (decide (x.n=1))) (h:=?_);refine Zb1 ?_;exact⟨by rw[ak];by_cases h1:x.n=1<;>simp only[h1,decide_true,decide_false,if_true,if_false]<;>rfl,k.kept⟩
 rw[zab S]at ak hm;refine Cz (λS=>?_) (λS=>?_)
 .rw[zac S]at ak hm
  simp only[decide_eq_true_eq]at hm;obtain⟨_,hlen,X7⟩:=hm;have YC:=aeU x.s;refine Kz (acM x.s oM (hT.keep k.kept).utf) (λ_ I _=>?_);rw[show JH x.s=(vF x.s,0) by unfold JH;rw[zac X7]];refine Kz (O1 (vF x.s) oM (hT.keep I.kept)) (λ_ I _=>?_);refine Zb1 ?_;exact⟨by rw[ak];rfl,I.kept⟩
 rw[zab S]at ak hm;refine Cz (λI=>?_) (λI=>?_)
 .rw[zac I]at ak hm
  simp only[decide_eq_true_eq]at hm;obtain⟨za,hlen⟩:=hm
  have dX:gJ iD ⟨false,0,x.s⟩=0:=by
   have e:isC iD.kind ⟨false,0,x.s⟩=decide ((0:Int)=0/\x.s.length<=1024):=rfl;have e1:nZ iD=true:=rfl;unfold gJ;rw[e1,zab dC,zab sM,e,zac (by simp[hlen])]
  refine Sr (Vb (aD iD) ?_);refine Zb2 ?_;refine Vb (ah ⟨false,0,x.s⟩) ?_;refine Kz (Ml ⟨false,0,x.s⟩ ⟨(by show(-9223372036854775808:Int)<=0;decide),(by show(0:Int)<=9223372036854775807;decide)⟩ (hT.keep k.kept).utf) (λ_ k _=>?_);rw[show tQ ⟨false,0,x.s⟩=(120::yY x.s,0)from zac dX];refine Zb7 ?_;exact⟨by rw[ak];rfl,k.kept⟩
 rw[zab I]at ak hm;refine Cz (λk=>?_) (λk=>?_)
 .rw[zac k]at ak hm
  simp only[decide_eq_true_eq]at hm;refine Kz (RY x.n) (λ_ I _=>?_);refine Zb1 ?_;exact⟨by rw[ak];rfl,I.kept⟩
 rw[zab k]at ak hm;simp only[decide_eq_true_eq]at hm;obtain⟨h7,h18,_,_⟩:=hm;have hg:=ahS h7 h18;rw[<-ak]at hg;have htn:(((x.kind-7).toNat:Nat):Int)=x.kind-7:=zcp oM;refine Dz (λI _ k=>?_);refine Gp I 1 rfl rfl (λ_=>(Gives.xL rfl)) (Zb1 ?_);refine Gc I 3 (((x.kind-7).toNat:Nat):Int) ?_;refine qG I 0 [(3,true),(2,false),(1,true)] rfl kR (VD) rfl kR kR (λv' S hv=>?_);obtain⟨b1,rfl,_,bZ,F1,hq,iA⟩:=hv;have a:=k.new bZ hq (λb hb=>(iA b hb).resolve_left id);have hR:Rd S (some ⟨b1,0,none⟩) gN 1 lN:=Sep.lK a At0 rfl;refine⟨sL,?_⟩;refine Gp I 4 rfl rfl (λ_=>(Gives.fF (l:=lN) (enc:=gN) rfl rfl hR (fO hg))) (GS (Gt rfl (Gives.Om (f:=0) rfl hR hg rfl) ?_));refine Zb1 ?_;exact⟨rfl,a.kept⟩
end
def join_eq (sep:UInt8): ∀ws:List (L8),Lib.join ws [sep]=iZ sep ws
 | []=>rfl
 | [w]=>Lib.join_one w [sep]
 | w::x::l=>by
  have ih:=join_eq sep (x::l);show _=w++sep::iZ sep (x::l)
  rw[<-ih];simp[Lib.join,List.intercalate]
attribute [local irreducible] dP gU
section
variable {w:Wd}
def aiV {l:List (L8)} {v:Value} (hr:aJ w v gN 1 l) (hl:l.length<=1000000) (hlen:(iZ 32 l).length<=140737488355328):Rk prog 80 [v,str [32]] w (str (iZ 32 l)):=by
 obtain⟨A,c,rfl,⟨hc,hc'⟩,hR⟩:=hr
 by_cases h0:l=[]
 .subst h0
  exact Calls.mono (Tryz.strings_Join_none A c ⟨#[32]⟩ w) λe w' he=>by
   obtain⟨rfl,rfl⟩:=he;exact⟨rfl,Kept.refl _ _⟩
 have Yj:0<l.length:=zfj.2 h0;obtain⟨ad,rfl⟩:=hR.addr Yj;obtain⟨x0,hx0⟩:=get_some Yj;obtain⟨ad',e0,hc0⟩:=hR.cell (f:=0) hx0 rfl;injection e0 with e0;subst e0
 have D7:=World.cell?_spot hc0;obtain⟨bk,o,sp⟩:=ad;have amD:sp=none:=D7;subst amD
 have hbk:bk<w.heap.size:=by
  refine Classical.byContradiction λhn=>?_;unfold World.cell? at hc0;rw[zdi (by show w.heap.size<=bk;omega)]at hc0;cases hc0
 have Gy:(l.map λs:L8=>(⟨s.toArray⟩:ByteArray)).map (·.data.toList)=l:=by
  rw[zdh];exact(zco λs _=>rfl).trans (List.map_id l)
 have:=qZ (Tryz.strings_Join bk o c (l.map λs=>⟨s.toArray⟩) ⟨#[32]⟩ w (λj x hj=>by
  rw[zbz]at hj;obtain⟨s,hs,rfl⟩:=zbc.1 hj;obtain⟨ad',e1,hcs⟩:=hR.cell (f:=0) hs rfl;injection e1 with e1;subst e1
  rw[zfd,zfb,Addr.add_lit]at hcs;exact hcs) hbk (by rw[zaf];omega) (by rw[zaf];exact hc) (by rw[Gy];show(Lib.join l [32]).length<=_;rw[join_eq];exact hlen))
 rw[Gy,zaf]at this;have e:Lib.join l [32]=iZ 32 l:=join_eq 32 l;rw[<-e];exact this
def VF {l:List bI} {vl:Value} (hl:aJ w vl aM 3 l) (hx: ∀x∈l,fits x.n) (hT:iB w):Rk prog 79 [vl] w (.tuple #[str (iO l).1,I (iO l).2]):=by
  obtain⟨C,n,rfl,⟨hn,hn'⟩,hC⟩:=hl;have H:=Sep.aF w;obtain⟨res,ak⟩: ∃res,res=iO l:=⟨_,rfl⟩;rw[<-ak];unfold iO at ak;refine cK func79 ?_;refine Cz (λhc6=>?_) (λhc6=>?_)
  . rw[zac oM]at ak
    refine Zb2 ?_;exact⟨by rw[ak];rfl,H.kept⟩
  rw[zab oM]at ak;refine Zb4 ?_;have Ha:=Sep.iW H 9 1 gN;refine aI (λx:Nat×Value=>[(0,.slice C l.length n),(4,x.2),(10,.slice C l.length n),(11,I l.length),(12,I x.1)]) (λx w'=>(x.1<=l.length/\∀(j:Nat) y,j<x.1->l[j]? =some y->dP y=true)/\Sep w noB [aY 9 1 gN x.2 ((l.take x.1).map gU)] w') (λx _=>l.length-x.1) (0,.slice none 0 0) tR ⟨⟨zak _,λj x hj=>zar hj (zdv j)⟩,Ha⟩ (λx τ wa hI=>?_);obtain⟨i,v1⟩:=x;obtain⟨⟨hi,xZ⟩,Ha⟩:=hI;dsimp only at hi xZ Ha;have Gy:((l.take i).map gU).length=i:=by rw[zaf,zah];omega
  refine Lp ?_;refine Cz (λIe=>?_) (λIe=>?_)
  . have aS:i<l.length:=oM
    obtain⟨x,oZ⟩:=get_some aS;have hfx:=hx x (zag oZ);have xY:(l.take (i+1)).map gU=(l.take i).map gU++[gU x]:=by rw[zay,oZ,zai];rfl
    refine Az (λb6 wb Hb ka=>?_);refine Tz (λwc Hc=>?_);refine Kz (YM x hfx (hT.keep Hc.kept).utf) (λwd Hd kb=>?_);refine Za1 ?_;refine Qn (Cd rfl (λIf=>?_) (λIf=>?_))
    . have l9:l.all dP=false:=by
        rw[<-zdo,zaz];intro h;have:=h x (zag oZ);rw[this]at If;cases If
      rw[zac l9]at ak;refine Zb2 ?_;exact⟨by rw[ak];rfl,Hd.kept⟩
    have Ye:dP x=true:=by simpa using If
    refine Kz (VE x Ye hfx (hT.keep Hd.kept)) (λwe He kc=>?_);refine Bs He ([gU x].flatMap gN) (λbs wf Hf kd=>?_);refine dG Hf (news:=[gU x]) At1 (by rw[Gy];unfold maxLen;simp;omega) (by rw[Gy];show(i+1)*16<=_;omega) (by intro u hu;simp only[zbh,zfm,gN,zbw,zba,zan,or_false]at hu;subst hu;rfl) (h:=?_);intro v2 wg Hg;rw[<-xY]at Hg;refine Zb3 ?_;exact aj (i+1,v2) tR ⟨⟨dO,λj y hj hy=>by
    by_cases e:j=i
    . subst e;rw[oZ]at hy;injection hy with hy;rw[<-hy];exact Ye
    exact xZ j y (by dsimp only at hj;omega) hy⟩,(Hg.aG).firsts (l:=[_])⟩ dO
  have jF:i=l.length:=oM
  have jE:l.all dP=true:=zaz.2 λx hxm=>by
    obtain⟨j,hj⟩:=zdb hxm;exact xZ j x (by have:=fO hj;omega) hj
  rw[zab (by rw[jE];simp)]at ak;rw[jF,zbr]at Ha;rw[jF,zbr]at Gy
  have hlen:(iZ 32 (l.map gU)).length<=(6146+1)*l.length:=by
    have:=BU 32 (k:=6146) (ws:=l.map gU) λw hw=>by
      obtain⟨x,hxm,rfl⟩:=zaq.1 hw;exact X6 (zaz.1 jE x hxm) (hx x hxm)
    rw[zaf]at this;exact this
  obtain⟨B,cb,rfl,OO,hB⟩:=Sep.bJ Ha At0;refine Kz (aiV (w:=wa) ⟨B,cb,rfl,⟨OO,Sep.aiR Ha At0⟩,eX Ha At0⟩ oM oM) (λwh Hh ke=>?_);refine Zb2 ?_;exact⟨by rw[ak];rfl,Hh.kept⟩
end
end
open Go.RowKit Go.ChangeShapes Go.WideShapes
def sN (b:Nat) (l:L8) (at_:Nat) (e:Int):HP:=blk b [str l,I at_,I e] 333
def jg (e k:Int):Int:=if e=0 then k else e
def dx (l:L8) (at_:Nat) (e:Int):UInt8×Nat×Int:=if e≠0 then(0,at_,e)else if at_=l.length then(0,at_,3)else(l.getD at_ 0,at_+1,0)
def jQ (l:L8) (at_:Nat) (e:Int) (c:UInt8):Nat×Int:=((dx l at_ e).2.1,if(dx l at_ e).1=c then(dx l at_ e).2.2 else jg (dx l at_ e).2.2 41)
def eG (l:L8) (at_:Nat) (e:Int):Nat×Nat×Int:=
 match nJ (dx l at_ e).1 with
 | none=>(0,(dx l at_ e).2.1,jg (dx l at_ e).2.2 41)
 | some d=>(d,(dx l at_ e).2.1,(dx l at_ e).2.2)
def nR (l:L8) (at_:Nat) (e:Int) (second:Bool):Nat×Nat×Int:=
 let d0:=eG l at_ e
 let e1:=if second=true/\d0.1≠13 then jg d0.2.2 41 else d0.2.2
 let d1:=eG l d0.2.1 e1
 let n1:=16*d0.1+d1.1
 let e2:=if second≠decide (220<=n1/\n1<=223)then jg d1.2.2 41 else d1.2.2
 let d2:=eG l d1.2.1 e2
 let n2:=16*n1+d2.1
 let d3:=eG l d2.2.1 d2.2.2
 (16*n2+d3.1,d3.2.1,d3.2.2)
variable {at_:Nat}
def take_at {l:L8} {e:Int} (h:at_<=l.length):(dx l at_ e).2.1<=l.length:=by
 unfold dx
 split
 .exact h
 split
 .exact h
 dsimp only;omega
def rT {l:L8} {e:Int} (h:at_<=l.length):(eG l at_ e).2.1<=l.length:=by
 unfold eG
 split<;>exact take_at h
def uM (l:L8) (at_:Nat) (e:Int):(eG l at_ e).1<16:=by
 unfold eG
 split
 .exact Nat.zero_lt_succ 15
 rename_i h;exact aeJ h
def R8 {l:L8} {e:Int} {s:Bool} (h:at_<=l.length):(nR l at_ e s).2.1<=l.length:=rT (rT (rT (rT h)))
def Fg {l:L8} {at_:Nat} {e:Int} {c:UInt8} (h:at_<=l.length):(jQ l at_ e c).1<=l.length:=take_at h
variable {w:Wd} {l:L8}
variable {b:Nat} {F:NP}
def oD {e:Int} (k:Int) (hp:(sN b l at_ e).ok F w):aR prog 275 [ay b,I k] w λr w'=>r=.tuple #[]/\Turn F (sN b l at_ (jg e k)) w w':=by
 have H:=Sep.bR hp;unfold sN at H;refine bQ func275 ?_;refine Cz (λS=>?_) (λS=>?_)
 .have ak:jg e k=k:=zac S
  refine Uz (λ_ a=>?_);refine Zb0 ?_;exact⟨rfl,by rw[ak];exact a.turn⟩
 have ak:jg e k=e:=zab S;refine Zb0 ?_;exact⟨rfl,by rw[ak];exact H.turn⟩
variable {e:Int}
def Ms (hp:(sN b l at_ e).ok F w) (hl:l.length<=1000000) (ha:at_<=l.length):aR prog 292 [ay b] w λr w'=>r=B (dx l at_ e).1/\Turn F (sN b l (dx l at_ e).2.1 (dx l at_ e).2.2) w w':=by
 have H:=Sep.bR hp;unfold sN at H;obtain⟨res,ak⟩: ∃res,res=dx l at_ e:=⟨_,rfl⟩;rw[<-ak];unfold dx at ak;refine cK func292 ?_;refine Cz (λk=>?_) (λk=>?_)
 .rw[zac k]at ak
  refine Zb1 ?_;exact⟨by rw[ak];rfl,by rw[ak];exact H.turn⟩
 have k:=k;rw[zab k]at ak;refine Dz (λS _ I=>?_);refine aqg ?_;refine fK S kR ?_;refine Cz (λS=>?_) (λS=>?_)
 .rw[zac oM]at ak
  refine Zb1 ?_;obtain⟨F0,eD,gV,aK⟩:=I.focus At0;refine aL (oD (l:=l) 3 eD) rfl rfl (λv' _ hv=>?_);obtain⟨rfl,bZ,F1,hq,hs⟩:=hv;have S:=aK _ F1 _ bZ hq hs;have he0:e=0:=zcr.1 k;have Ll:jg e 3=3:=zac he0;rw[Ll]at S;refine Zb1 ?_;exact⟨by rw[ak];rfl,by rw[ak];exact S.turn⟩
 rw[zab oM]at ak;refine Zb4 ?_;refine Vc ((at_+1:Nat):Int) ?_;refine Uz (λ_ _=>?_);refine Dz (λS _ I=>?_);refine Zb8 ?_;refine Gc S 8 (at_:Int) ?_;refine GS (Gn rfl (λ_=>(Gives.yT rfl rfl oM)) ?_);refine Zb1 ?_;exact⟨by rw[ak];rfl,by rw[ak];have he0:e=0:=zcr.1 k;rw[he0]at I;exact I.turn⟩
def Mt {b at_:Nat} {e:Int} (c:UInt8) (hp:(sN b l at_ e).ok F w) (hl:l.length<=1000000) (ha:at_<=l.length):aR prog 274 [ay b,B c] w λr w'=>r=.tuple #[]/\Turn F (sN b l (jQ l at_ e c).1 (jQ l at_ e c).2) w w':=by
  have H:=Sep.bR hp;refine bQ func274 ?_;refine Zb1 ?_;obtain⟨F0,eD,gV,aK⟩:=H.focus At0;refine aL (Ms (l:=l) eD hl ha) rfl rfl (λv' _ hv=>?_);obtain⟨rfl,bZ,F1,hq,hs⟩:=hv;have k:=aK _ F1 _ bZ hq hs;refine Cz (λS=>?_) (λS=>?_)
  . have ak:jQ l at_ e c=((dx l at_ e).2.1,jg (dx l at_ e).2.2 41):=by
      unfold jQ;rw[zab (λh=>S (by rw[h]))]
    refine Zb1 ?_;obtain⟨F0,eD,gV,aK⟩:=k.focus At0;refine aL (oD (l:=l) 41 eD) rfl rfl (λv' _ hv=>?_);obtain⟨rfl,bZ,F1,hq,hs⟩:=hv;have I:=aK _ F1 _ bZ hq hs;refine Zb0 ?_;exact⟨rfl,by rw[ak];exact I.turn⟩
  have ak:jQ l at_ e c=((dx l at_ e).2.1,(dx l at_ e).2.2):=by
    unfold jQ;rw[zac (UInt8.toNat_inj.1 (by have h:=S;omega))]
  refine Zb0 ?_;exact⟨rfl,by rw[ak];exact k.turn⟩
def K5 (l:L8):ig l=if(Lib.decodeGo ⟨l.toArray⟩).1=65533/\(Lib.decodeGo ⟨l.toArray⟩).2<2 then none else some (Lib.decodeGo ⟨l.toArray⟩):=by
 by_cases h0:l=[]
 .subst h0;rfl
 have hd:Lib.decodeGo ⟨l.toArray⟩=decodeL l:=by
  unfold Lib.decodeGo;rw[zab (by rw[Mw.size_mk];exact λe=>h0 (zbg e))];rfl
 rw[hd];cases hn:ig l with
 | none=>
  unfold ig at hn
  split at hn
  .rename_i h
   rcases h with h | ⟨h1,h2⟩
   .exact zar h h0
   rw[zac ⟨h1,oM⟩]
  cases hn
 | some p=>
  obtain⟨r,n⟩:=p;obtain⟨e1,h1,_,_⟩:=uw hn;rw[e1,zab];rintro⟨h2,h3⟩;dsimp only at h2 h3;unfold ig at hn;rw[zac (.inr ⟨by rw[e1];exact h2,by rw[e1];dsimp only;omega⟩)]at hn;cases hn
def afG (l:L8) (hT:mX w):Rk prog 294 [str l] w (.tuple #[I32 (jW l).1,I (jW l).2,.bool (ig l).isSome]):=by
 have H:=Sep.aF w;refine cK func294 ?_;refine Kz (qZ (Tryz.utf8_DecodeRuneInString ⟨l.toArray⟩ _ (hT.keep H.kept))) (λ_ k _=>?_);refine Sz (λS=>?_) (λS=>?_)
 .have hr:=S
  refine Cz (λa=>?_) (λa=>?_)
  .have ak:=K5 l
   rw[zac ⟨oM,oM⟩]at ak;have Yk:jW l=(0,0):=by unfold jW;rw[ak];rfl
   refine Zb3 ?_;exact⟨by rw[Yk,ak];rfl,k.kept⟩
  have ak:=K5 l;rw[zab (λh=>oM)]at ak;refine Zb5 ?_;have ak:=K5 l;rw[zab oM]at ak;have Yk:jW l=Lib.decodeGo ⟨l.toArray⟩:=by unfold jW;rw[ak];rfl
  exact⟨by rw[Yk,ak];rfl,k.kept⟩
 have hr:=S;refine Zb6 ?_;have ak:=K5 l;rw[zab oM]at ak;have Yk:jW l=Lib.decodeGo ⟨l.toArray⟩:=by unfold jW;rw[ak];rfl
 exact⟨by rw[Yk,ak];rfl,k.kept⟩
def apV (c:UInt8):bits .or .u8 (c.toNat:Int) 32=((c||| 32).toNat:Int):=by
 have key: ∀i:Fin 256,bits .or .u8 (i.val:Int) 32=((i.val.toUInt8||| 32).toNat:Int):=by decide+kernel
 have:=key ⟨c.toNat,c.toNat_lt⟩;have e:(c.toNat).toUInt8=c:=sM;simpa only[e]using this
def acQ (c:UInt8):nJ c=if Lib.indexByte sW (c||| 32)<0\/c.toNat<48\/(57<c.toNat/\c.toNat<65)then none else some (Lib.indexByte sW (c||| 32)).toNat:=by
 have key: ∀i:Fin 256,nJ i.val.toUInt8=if Lib.indexByte sW (i.val.toUInt8||| 32)<0\/i.val.toUInt8.toNat<48\/(57<i.val.toUInt8.toNat/\i.val.toUInt8.toNat<65)then none else some (Lib.indexByte sW (i.val.toUInt8||| 32)).toNat:=by decide+kernel
 have:=key ⟨c.toNat,c.toNat_lt⟩;have e:(c.toNat).toUInt8=c:=sM;simpa only[e]using this
def CJ (hp:(sN b l at_ e).ok F w) (hl:l.length<=1000000) (ha:at_<=l.length):aR prog 300 [ay b] w λr w'=>r=I (eG l at_ e).1/\Turn F (sN b l (eG l at_ e).2.1 (eG l at_ e).2.2) w w':=by
 have H:=Sep.bR hp;obtain⟨c,hc⟩: ∃c,c=(dx l at_ e).1:=⟨_,rfl⟩;have UZ:=c.toNat_lt;have Ah:=acQ c;refine cK func300 ?_;refine Zb2 ?_;obtain⟨F0,eD,gV,aK⟩:=H.focus At0;refine aL (Ms (l:=l) eD hl ha) rfl rfl (λv' _ hv=>?_);obtain⟨rfl,bZ,F1,hq,hs⟩:=hv;have k:=aK _ F1 _ bZ hq hs;rw[<-hc];refine Zb2 ?_;refine Vv (Gives.orE rfl rfl (apV c)) (eB (zy sW (c||| 32)) (h:=?_));refine Sz (λS=>?_) (λS=>?_)
 .refine Zb4 ?_
  have ak:eG l at_ e=(0,(dx l at_ e).2.1,jg (dx l at_ e).2.2 41):=by
   unfold eG;rw[<-hc,Ah,zac oM]
  obtain⟨F0,eD,gV,aK⟩:=k.focus At0;refine aL (oD (l:=l) 41 eD) rfl rfl (λv' _ hv=>?_);obtain⟨rfl,bZ,F1,hq,hs⟩:=hv;have S:=aK _ F1 _ bZ hq hs;refine Zb1 ?_;exact⟨by rw[ak];rfl,by rw[ak];exact S.turn⟩
 refine Sz (λS=>?_) (λS=>?_)
 .refine Zb2 ?_
  have ak:eG l at_ e=(0,(dx l at_ e).2.1,jg (dx l at_ e).2.2 41):=by
   unfold eG;rw[<-hc,Ah,zac oM]
  obtain⟨F0,eD,gV,aK⟩:=k.focus At0;refine aL (oD (l:=l) 41 eD) rfl rfl (λv' _ hv=>?_);obtain⟨rfl,bZ,F1,hq,hs⟩:=hv;have S:=aK _ F1 _ bZ hq hs;refine Zb1 ?_;exact⟨by rw[ak];rfl,by rw[ak];exact S.turn⟩
 refine Sz (λS=>?_) (λS=>?_)
 .refine Cz (λS=>?_) (λS=>?_)
  .refine Zb1 ?_
   have ak:eG l at_ e=(0,(dx l at_ e).2.1,jg (dx l at_ e).2.2 41):=by
    unfold eG;rw[<-hc,Ah,zac oM]
   obtain⟨F0,eD,gV,aK⟩:=k.focus At0;refine aL (oD (l:=l) 41 eD) rfl rfl (λv' _ hv=>?_);obtain⟨rfl,bZ,F1,hq,hs⟩:=hv;have S:=aK _ F1 _ bZ hq hs;refine Zb1 ?_;exact⟨by rw[ak];rfl,by rw[ak];exact S.turn⟩
  refine Zb2 ?_
  have ak:eG l at_ e=((Lib.indexByte sW (c||| 32)).toNat,(dx l at_ e).2.1,(dx l at_ e).2.2):=by
   unfold eG;rw[<-hc,Ah,zab oM]
  have hn:(((Lib.indexByte sW (c||| 32)).toNat:Nat):Int)=Lib.indexByte sW (c||| 32):=zcp oM;exact⟨by rw[ak];show _=I (((Lib.indexByte sW (c||| 32)).toNat:Nat):Int);rw[hn];rfl,by rw[ak];exact k.turn⟩
 refine Zb4 ?_
 have ak:eG l at_ e=((Lib.indexByte sW (c||| 32)).toNat,(dx l at_ e).2.1,(dx l at_ e).2.2):=by
  unfold eG;rw[<-hc,Ah,zab oM]
 have hn:(((Lib.indexByte sW (c||| 32)).toNat:Nat):Int)=Lib.indexByte sW (c||| 32):=zcp oM;exact⟨by rw[ak];show _=I (((Lib.indexByte sW (c||| 32)).toNat:Nat):Int);rw[hn];rfl,by rw[ak];exact k.turn⟩
def R9 {a:Nat} (ha:a<268435456) (hb:b<16):bits .or .i64 ((16*a:Nat):Int) (b:Int)=((16*a+b:Nat):Int):=by
 have key:16*a||| b=16*a+b:=(Nat.two_pow_add_eq_or_of_lt (i:=4) hb a).symm
 show IntKind.i64.wrap ((BitVec.ofInt 64 ((16*a:Nat):Int)||| BitVec.ofInt 64 (b:Int)).toNat:Int)=_
 rw[BitVec.toNat_or,ofInt_u64 _ oM,ofInt_u64 _ oM,key,IntKind.wrap_i64];omega
def Ta {a:Nat} (ha:a<268435456):IntKind.i64.wrap ((a:Int)*2^(Min.min (4:Int).toNat IntKind.i64.bits))=((16*a:Nat):Int):=by
 show IntKind.i64.wrap ((a:Int)*16)=_
 rw[IntKind.wrap_i64];omega
theorem VG (second:Bool) (hp:(sN b l at_ e).ok F w) (hl:l.length<=1000000) (ha:at_<=l.length):aR prog 293 [ay b,.bool second] w λr w'=>r=I32 (nR l at_ e second).1/\Turn F (sN b l (nR l at_ e second).2.1 (nR l at_ e second).2.2) w w':=by
 have H:=Sep.bR hp;obtain⟨d0,hd0⟩: ∃d,d=eG l at_ e:=⟨_,rfl⟩;have h0l:=uM l at_ e;have h0a:=rT (e:=e) ha;rw[<-hd0]at h0l h0a;obtain⟨e1,KH⟩: ∃e1,e1=if second=true/\d0.1≠13 then jg d0.2.2 41 else d0.2.2:=⟨_,rfl⟩
 obtain⟨d1,hd1⟩: ∃d,d=eG l d0.2.1 e1:=⟨_,rfl⟩;have h1l:=uM l d0.2.1 e1;have h1a:=rT (e:=e1) h0a;rw[<-hd1]at h1l h1a;obtain⟨n1,Ag⟩: ∃n,n=16*d0.1+d1.1:=⟨_,rfl⟩;obtain⟨e2,U0⟩: ∃e2,e2=if second≠decide (220<=n1/\n1<=223)then jg d1.2.2 41 else d1.2.2:=⟨_,rfl⟩
 obtain⟨d2,Gq⟩: ∃d,d=eG l d1.2.1 e2:=⟨_,rfl⟩;have h2l:=uM l d1.2.1 e2;have h2a:=rT (e:=e2) h1a;rw[<-Gq]at h2l h2a;obtain⟨d3,hd3⟩: ∃d,d=eG l d2.2.1 d2.2.2:=⟨_,rfl⟩;have h3l:=uM l d2.2.1 d2.2.2;have h3a:=rT (e:=d2.2.2) h2a;rw[<-hd3]at h3l h3a
 have ak:nR l at_ e second=(16*(16*n1+d2.1)+d3.1,d3.2.1,d3.2.2):=by
  rw[hd3,Gq,U0,Ag,hd1,KH,hd0];rfl
 refine bQ func293 ?_;refine Zb2 ?_;obtain⟨F0,eD,gV,aK⟩:=H.focus At0;refine aL (CJ (l:=l) eD hl ha) rfl rfl (λv' _ hv=>?_);obtain⟨rfl,bZ,F1,hq,hs⟩:=hv;have k:=aK _ F1 _ bZ hq hs;rw[<-hd0];rw[<-hd0]at k;refine Am ?_;refine Qn (dD (λ_:Unit=>[(0,ay b),(1,.bool second),(5,I d0.1)]) (λ_ w'=>Sep w F [sN b l d0.2.1 e1] w') ?_ ?_)
 .refine Zb2 ?_
  refine dH (t:=9) rfl (λS=>?_) (λS=>?_)
  .have aqC:second=true:=S
   refine Cz (λa=>?_) (λa=>?_)
   .have Yl:jg d0.2.2 41=e1:=by rw[KH,zac ⟨aqC,λh=>a (by rw[h];rfl)⟩]
    refine Zb1 ?_;obtain⟨F0,eD,gV,aK⟩:=k.focus At0;refine aL (oD (l:=l) 41 eD) rfl rfl (λv' _ hv=>?_);obtain⟨rfl,bZ,F1,hq,hs⟩:=hv;have c:=aK _ F1 _ bZ hq hs;refine Zb0 ?_;rw[Yl]at c;exact au () tR c
   have Yl:d0.2.2=e1:=by rw[KH,zab (λh=>h.2 (by have h2:=a;omega))]
   refine Zb0 ?_;rw[Yl]at k;exact au () tR k
  have Yl:d0.2.2=e1:=by rw[KH,zab (λh=>by have h2:=S;rw[h.1]at h2;cases h2)]
  refine Zb1 ?_;rw[Yl]at k;exact au () tR k
 intro _ τ c c;refine Lp ?_;refine Zb1 ?_;refine Vv (Gives.afE rfl rfl oM (Ta oM)) (Mv ?_);obtain⟨F0,eD,gV,aK⟩:=c.focus At0;refine aL (CJ (l:=l) eD hl h0a) rfl rfl (λv' _ hv=>?_);obtain⟨rfl,bZ,F1,hq,hs⟩:=hv;have c:=aK _ F1 _ bZ hq hs;rw[<-hd1];rw[<-hd1]at c;refine Vv (Gives.orE rfl rfl (R9 oM h1l)) ?_;rw[<-Ag];refine Am ?_;refine Qn (dD (λ_:Unit=>[(0,ay b),(1,.bool second),(5,I n1)]) (λ_ w'=>Sep w F [sN b l d1.2.1 e2] w') ?_ ?_)
 .refine Sz (λa=>?_) (λa=>?_)
  .have hb:decide (220<=n1/\n1<=223)=decide ((n1:Int)<=223):=zbf.2 (by have h:=a;omega)
   refine Za4 ?_;refine Qn (Cd rfl (λS=>?_) (λS=>?_))
   .have Yl:jg d1.2.2 41=e2:=by rw[U0,zac (λh=>by have h2:=S;rw[<-hb,h]at h2;simp at h2)]
    refine Zb1 ?_;obtain⟨F0,eD,gV,aK⟩:=c.focus At0;refine aL (oD (l:=l) 41 eD) rfl rfl (λv' _ hv=>?_);obtain⟨rfl,bZ,F1,hq,hs⟩:=hv;have k:=aK _ F1 _ bZ hq hs;refine Zb0 ?_;rw[Yl]at k;exact au () tR k
   have Yl:d1.2.2=e2:=by rw[U0,zab (λh=>h (by have h2:=S;rw[hb];revert h2;first | (cases second<;>simp;done) | (generalize decide ((n1:Int)<=223)=D;cases second<;>cases D<;>simp)))]
   refine Zb0 ?_;rw[Yl]at c;exact au () tR c
  have hb:decide (220<=n1/\n1<=223)=false:=zal (by have h:=a;omega);refine Za2 ?_;refine Qn (Cd rfl (λk=>?_) (λk=>?_))
  .have Yl:jg d1.2.2 41=e2:=by rw[U0,zac (λh=>by have h2:=k;rw[<-hb,h]at h2;simp at h2)]
   refine Zb1 ?_;obtain⟨F0,eD,gV,aK⟩:=c.focus At0;refine aL (oD (l:=l) 41 eD) rfl rfl (λv' _ hv=>?_);obtain⟨rfl,bZ,F1,hq,hs⟩:=hv;have S:=aK _ F1 _ bZ hq hs;refine Zb0 ?_;rw[Yl]at S;exact au () tR S
  have Yl:d1.2.2=e2:=by rw[U0,zab (λh=>h (by have h2:=k;rw[hb];revert h2;first | (cases second<;>simp;done) | (generalize decide ((n1:Int)<=223)=D;cases second<;>cases D<;>simp)))]
  refine Zb0 ?_;rw[Yl]at c;exact au () tR c
 intro _ τ S S;refine Lp ?_;refine Zb1 ?_;refine Vv (Gives.afE rfl rfl oM (Ta oM)) (Mv ?_);obtain⟨F0,eD,gV,aK⟩:=S.focus At0;refine aL (CJ (l:=l) eD hl h1a) rfl rfl (λv' _ hv=>?_);obtain⟨rfl,bZ,F1,hq,hs⟩:=hv;have S:=aK _ F1 _ bZ hq hs;rw[<-Gq];rw[<-Gq]at S;refine Vv (Gives.orE rfl rfl (R9 oM h2l)) (Zb2 ?_);refine Vv (Gives.afE rfl rfl oM (Ta oM)) (Mv ?_);obtain⟨F0,eD,gV,aK⟩:=S.focus At0;refine aL (CJ (l:=l) eD hl h2a) rfl rfl (λv' _ hv=>?_);obtain⟨rfl,bZ,F1,hq,hs⟩:=hv;have S:=aK _ F1 _ bZ hq hs;rw[<-hd3];rw[<-hd3]at S;refine Vv (Gives.orE rfl rfl (R9 oM h3l)) (Zb2 ?_);exact⟨by rw[ak];rfl,by rw[ak];exact S.turn⟩
def anK {x:Nat} (h:x<256):bits .and .u8 (x:Int) 7=((x%8:Nat):Int):=by
 have key: ∀i:Fin 256,i.val&&& 7=i.val%8:=dC;have:=u8_and_nat x 7 h dC;rw[key ⟨x,h⟩]at this;exact this
def aiW (l:L8) (hl:l.length<=1000000) (hT:mX w):aR prog 295 [str l] w λv w'=>(∃b,v=.bool b)/\Kept noB w w':=by
 have H:=Sep.aF w;refine cK func295 ?_;refine Cz (λYz=>?_) (λYz=>?_)
 .refine Zb1 ?_
  exact⟨⟨_,rfl⟩,H.kept⟩
 refine Zb1 ?_;refine Vv (Gives.yT (i:=0) rfl rfl oM) ?_;have D6:=(l.getD 0 0).toNat_lt;refine Vv (Gives.Br (i:=(l.getD 0 0).toNat) rfl rfl oM) ?_;rw[Addr.add_lit];refine ags (by rw[zcz,zfd];exact(hT.keep H.kept).1 _ D6) rfl rfl ?_;refine Zb3 ?_;obtain⟨v,hv⟩: ∃v,v=Lib.firstT (l.getD 0 0).toNat:=⟨_,rfl⟩;have RH:v<256:=by have:=Lib.firstT_cases (l.getD 0 0).toNat;omega
 rw[<-hv];refine Vv (Gives.Ef rfl rfl (anK RH)) (Vv (Gives.ql (c:=((v%8:Nat):Int)) rfl (by rw[IntKind.wrap_i64];omega)) ?_);refine Cz (λIe=>?_) (λIe=>?_)
 .refine Zb1 ?_
  exact⟨⟨_,rfl⟩,H.kept⟩
 refine Zb1 ?_;refine Vv (Gives.Eh (m:=v) (s:=4) rfl rfl dC) ?_;obtain⟨q,hq⟩: ∃q,q=v/2^4:=⟨_,rfl⟩;have lq:q<16:=oM;rw[<-hq];refine Vv (Gives.Br (i:=q) rfl rfl oM) ?_;rw[Addr.add_lit,zcz]
 refine adF (us:=[.int .u8 (Lib.accLo q),.int .u8 (Lib.accHi q)]) (λj u hj=>by
  obtain⟨h1,h2⟩:=(hT.keep H.kept).2 q lq;rw[Addr.add_lit]
  match j,hj with
  | 0,hj=>injection hj with hj;subst hj;rw[zfb,Nat.mul_comm,zcz];exact h1
  | 1,hj=>injection hj with hj;subst hj;rw[Nat.mul_comm,zcz];exact h2) rfl rfl rfl ?_
 refine Az (λb27 wa Ha ka=>?_);refine Tz (λwb Hb=>?_);refine Dz (λSa wc Hc=>?_);refine Zb3 ?_;refine fM (t:=25) rfl (λSb=>?_) (λSb=>?_)
 .refine Zb1 ?_
  refine Gp Sa 4 rfl rfl (λ_=>(Gives.yT (i:=1) rfl rfl oM)) (Zb4 ?_);refine fM (t:=31) rfl (λSc=>?_) (λSc=>?_)
  .refine Zb3 ?_
   exact⟨⟨_,rfl⟩,Hc.kept⟩
  refine Zb3 ?_;refine Gp Sa 12 rfl rfl (λ_=>(Gives.yT (i:=1) rfl rfl oM)) (Za3 ?_);refine fK Sa kR ?_;refine Cz (λIf=>?_) (λIf=>?_)
  .refine Zb1 ?_
   exact⟨⟨_,rfl⟩,Hc.kept⟩
  refine Sz (λSd=>?_) (λSd=>?_)
  .refine Zb1 ?_
   refine Vv (Gives.yT (i:=2) rfl rfl oM) (Sz (λSe=>?_) (λSe=>?_))
   .refine Zb3 ?_
    exact⟨⟨_,rfl⟩,Hc.kept⟩
   refine Zb1 ?_;refine Vv (Gives.yT (i:=2) rfl rfl oM) (Cz (λIg=>?_) (λIg=>?_))
   .refine Zb1 ?_
    exact⟨⟨_,rfl⟩,Hc.kept⟩
   refine Zb1 ?_;exact⟨⟨_,rfl⟩,Hc.kept⟩
  refine Zb2 ?_;exact⟨⟨_,rfl⟩,Hc.kept⟩
 refine Sz (λSf=>?_) (λSf=>?_)
 .refine Zb1 ?_
  refine Vv (Gives.yT (i:=2) rfl rfl oM) (Sz (λSg=>?_) (λSg=>?_))
  .refine Zb3 ?_
   exact⟨⟨_,rfl⟩,Hc.kept⟩
  refine Zb1 ?_;refine Vv (Gives.yT (i:=2) rfl rfl oM) (Cz (λIh=>?_) (λIh=>?_))
  .refine Zb1 ?_
   exact⟨⟨_,rfl⟩,Hc.kept⟩
  refine Zb1 ?_;exact⟨⟨_,rfl⟩,Hc.kept⟩
 refine Zb2 ?_;exact⟨⟨_,rfl⟩,Hc.kept⟩
def Ei {w':Wd} {o:Nat} {v:Value} (hk:Kept F w w') (hF: ¬F b) (h:w.cell? ⟨b,o,none⟩=some v):w'.cell? ⟨b,o,none⟩=some v:=by
 have aS:b<w.heap.size:=by
  refine Classical.byContradiction λhn=>?_;unfold World.cell? at h;rw[zdi dO]at h;cases h
 unfold World.cell? at h ⊢;rw[hk.block b aS hF];exact h
def mX.anL {w':Wd} (h:mX w) (hk:Kept F w w') (h1: ¬F 4) (h2: ¬F 5):mX w':=
 ⟨λc hc=>Ei hk h1 (h.1 c hc),λi hi=>⟨Ei hk h2 (h.2 i hi).1,Ei hk h2 (h.2 i hi).2⟩⟩
def VH {w':Wd} (hp:(sN b l at_ e).ok F w) (h:mX w) (hk:Kept F w w'):mX w':=by
 have hc:w.cell? ⟨b,0,none⟩=some (str l):=by
  unfold World.cell?;have:=hp.2;simp only[this];rfl
 refine h.anL hk (λhF=>?_) (λhF=>?_)
 .have hb:=(hp.1 _).1 hF
  have h0:=h.1 0 dC;rw[<-hb]at hc;have h1:=hc.symm.trans h0;cases h1
 have hb:=(hp.1 _).1 hF;have h0:=(h.2 0 dC).1;rw[<-hb]at hc;have h1:=hc.symm.trans h0;cases h1
def nH (l:L8) (at_:Nat):L8×Nat×Bool:=
 if(l.getD at_ 0).toNat<32 then([],at_,false)else match ig (l.drop at_)with
  | some (_,n)=>((l.drop at_).take n,at_+n,true)
  | none=>([],at_,false)
def acR {b at_:Nat} (hp:(sN b l at_ 0).ok F w) (hl:l.length<=1000000) (ha:at_<l.length) (hT:mX w):aR prog 277 [ay b] w λr w'=>∃x:Int,r=str (nH l at_).1/\((nH l at_).2.2=true↔x=0)/\Turn F (sN b l (nH l at_).2.1 x) w w':=by
 have H:=Sep.bR hp;unfold sN at H;obtain⟨res,ak⟩: ∃res,res=nH l at_:=⟨_,rfl⟩;rw[<-ak];unfold nH at ak;have hdl:(l.drop at_).length=l.length-at_:=zbo;have hg0:(l.drop at_).getD 0 0=l.getD at_ 0:=by simp[zax]
 refine cK func277 ?_;refine Dz (λ_ _ k=>?_);refine Zb8 ?_;refine GS (Gn rfl (λ_=>(Gives.pW (l:=l) (i:=at_) rfl rfl oM)) ?_);refine Kz (afG (l.drop at_) (VH hp hT k.kept)) (λ_ k _=>?_);refine Zb8 ?_;refine Vv (Gives.yT (i:=0) rfl rfl oM) ?_;rw[hg0];refine Cz (λS=>?_) (λS=>?_)
 .rw[zac oM]at ak
  refine Zb1 ?_;obtain⟨F0,eD,gV,aK⟩:=k.focus At0;refine aL (oD (l:=l) 41 eD) rfl rfl (λv' _ hv=>?_);obtain⟨rfl,bZ,F1,hq,hs⟩:=hv;have S:=aK _ F1 _ bZ hq hs;refine Zb1 ?_;exact⟨41,by rw[ak];rfl,by rw[ak];simp,by rw[ak];exact S.turn⟩
 rw[zab oM]at ak;refine Za2 ?_;refine Qn (Cd rfl (λS=>?_) (λS=>?_))
 .obtain⟨⟨r,n⟩,hn⟩:=Option.isSome_iff_exists.1 S
  obtain⟨_,Ag,Lm,_⟩:=uw hn;have hnp:jW (l.drop at_)=(r,n):=by unfold jW;rw[hn];rfl
  rw[hn]at ak;rw[hdl]at Lm;rw[hnp];refine Zb5 ?_;refine Vv (Gives.RQ (c:=((at_+n:Nat):Int)) rfl rfl (by show(at_:Int)+(n:Int)=_;omega) oM) (Uz (λ_ I=>?_));refine Zb2 ?_;refine Vv (Gives.sw (l:=l.drop at_) (i:=n) rfl rfl oM) (Zb1 ?_);exact⟨0,by rw[ak];rfl,by rw[ak];simp,by rw[ak];exact I.turn⟩
 have hn:ig (l.drop at_)=none:=by
  cases h:ig (l.drop at_)with
  | none=>rfl
  | some y=>rw[h]at S;cases S
 rw[hn]at ak;refine Zb1 ?_;refine aL (aiW (l.drop at_) oM (VH hp hT k.kept)) rfl rfl (λv' _ hv=>?_);obtain⟨⟨bf,rfl⟩,bZ⟩:=hv;have I:=k.keep bZ;refine Za2 ?_;refine Qn (Cd rfl (λk=>?_) (λk=>?_))
 .refine Zb1 ?_
  obtain⟨F0,eD,gV,aK⟩:=I.focus At0;refine aL (oD (l:=l) 3 eD) rfl rfl (λv' _ hv=>?_);obtain⟨rfl,bZ,F1,hq,hs⟩:=hv;have k:=aK _ F1 _ bZ hq hs;refine Zb1 ?_;exact⟨3,by rw[ak];rfl,by rw[ak];simp,by rw[ak];exact k.turn⟩
 refine Zb1 ?_;obtain⟨F0,eD,gV,aK⟩:=I.focus At0;refine aL (oD (l:=l) 40 eD) rfl rfl (λv' _ hv=>?_);obtain⟨rfl,bZ,F1,hq,hs⟩:=hv;have k:=aK _ F1 _ bZ hq hs;refine Zb1 ?_;exact⟨40,by rw[ak];rfl,by rw[ak];simp,by rw[ak];exact k.turn⟩
def anM:ownKnob prog.godebug=none:=by kernel_rfl
def alE:laidOutB prog=true:=by kernel_rfl
def abe:List (String×DataW Unit):=[("math/bits.deBruijn32tab",Rows.laid_math_bits_deBruijn32tab),("math/bits.deBruijn64tab",Rows.laid_math_bits_deBruijn64tab),("internal/strconv.uint64pow10",Rows.laid_internal_strconv_uint64pow10),("unicode/utf8.acceptRanges",Rows.laid_unicode_utf8_acceptRanges),("strconv.ErrRange",Rows.laid_strconv_ErrRange),("strconv.ErrSyntax",Rows.laid_strconv_ErrSyntax),("unicode/utf8.first",Rows.laid_unicode_utf8_first)]
def aiX:U8Extra prog Tryz.lays260_ren:=⟨kR,kR,kR,kR,kR,kR,kR⟩
def afH:Rows.laid_unicode_utf8_first=firstData:=Pinned.utf8First_eq
def acS:(Rows.laid_unicode_utf8_acceptRanges:DataW Unit)=acceptData:=by kernel_rfl
def pow_eq:(Rows.laid_internal_strconv_uint64pow10:DataW Unit)=tabData .u64 pow10Tab:=by kernel_rfl
def abf: "*" ++ "errors.errorString" = "*errors.errorString" :=dC
def afI (u:Td) (h:prog.typeName? 3 u=some "*errors.errorString"):u=337:=
 typeName_ptr_named (nm:= "errors.errorString") (by rw[abf];kernel_rfl) kR dC u (by rw[abf];exact h)
def VI:prog.cellsOf 339=1:=by kernel_rfl
def VJ:prog.cellsOf 9=1:=by kernel_rfl
variable {n:Nat}
def afJ {W:Wd} (h0:laidMetH prog abe W) (UG:W.ShapedOpen prog):iB W:=by
 rw[MakeChecks.laidMetH_plain _ _ _ kR]at h0;have h:=h0;refine⟨?_,?_,?_,?_,?_⟩
 .exact utf8Tabs_of_reads Tryz.lays260 aiX (afH▸Lib.laidMet.reads h (by unfold abe;simp)) (acS▸Lib.laidMet.reads h (by unfold abe;simp))
 .obtain⟨g,t,cs,fuel,p,hg,hty,hvar,hd⟩:=Lib.laidMet.reads (n:= "internal/strconv.uint64pow10") h (by unfold abe;exact .tail _ (.tail _ (.head _)))
  have hg':prog.globalNamed "internal/strconv.uint64pow10" =some 3:=kR;obtain rfl:=Option.some.inj (hg'.symm.trans hg);have hty':(prog.globals[3]?).map (·.type)=some 341:=kR;obtain rfl:=Option.some.inj (hty'.symm.trans hty);rw[pow_eq]at hd;have hcs:=cells_of_tab underlying341 underlying236 kR kR hd;unfold Lib.TabIs;rw[hvar,<-hcs]
 .obtain⟨a,s,hv,_⟩:=laid_sentinel (g:=1) (ti:=147) (tp:=337) (te:=339) (ts:=9) h.tail.tail.tail.tail.tail kR kR underlying147 afI underlying337 underlying339 rfl rfl underlying9 VI VJ
  exact⟨_,_,hv⟩
 .obtain⟨a,s,hv,_⟩:=laid_sentinel (g:=2) (ti:=147) (tp:=337) (te:=339) (ts:=9) h.tail.tail.tail.tail kR kR underlying147 afI underlying337 underlying339 rfl rfl underlying9 VI VJ
  exact⟨_,_,hv⟩
 exact Tryz.laysM219.s1_3 W UG
section
variable {H:Type} {enc:Td×Value->H} {W:Wd} {r:Reach} {base:Nat} {v:Value} {d:DataW H} {ps:List MemPlace}
def Tc {n:Int} {k:IntKind} (hk:k=.i64) (h:(Lit.int k n).wf=true):fits n:=by
 subst hk;simp[Lit.wf,IntKind.min,IntKind.max,IntKind.bits,IntKind.signed]at h;unfold fits;omega
def Qc {cs:LV} {y:DataW H×List MemPlace} (hl:cs.length=3) (hc:DataW.trod enc prog W 0 (λ_=>true) true n 41 cs=some y): ∃x:aC,cs=ah x/\fits x.n:=by
 have hf:=nG underlying41 kR hc kR hl;obtain⟨v0,_,_,KY,h0⟩:=hf 0 _ rfl;obtain⟨v1,_,_,RH,h1⟩:=hf 1 _ rfl;obtain⟨v2,_,_,hv2,h2⟩:=hf 2 _ rfl;obtain⟨b,hb,_⟩:=DataW.trod_bool underlying4 h0;obtain⟨m,hm,_,wm⟩:=DataW.trod_int underlying2 h1;obtain⟨s,hs,_⟩:=DataW.trod_string underlying9 h2;injection hb with hb _
 injection hm with hm _
 injection hs with hs _
 subst hb hm hs
 match cs,hl with
 | [c0,c1,c2],_=>
  simp at KY RH hv2;subst KY RH hv2;refine⟨⟨b,m,s.data.toList⟩,?_,Tc rfl wm⟩;rw[Ej];rfl
def acT {cs:LV} {y:DataW H×List MemPlace} (hl:cs.length=2) (hc:DataW.trod enc prog W 0 (λ_=>true) true n 65 cs=some y): ∃x:bM,cs=aD x:=by
 have hf:=nG underlying65 kR hc kR hl;obtain⟨v0,_,_,KY,h0⟩:=hf 0 _ rfl;obtain⟨v1,_,_,RH,h1⟩:=hf 1 _ rfl;obtain⟨m,hm,_,_⟩:=DataW.trod_int underlying3 h0;obtain⟨b,hb,_⟩:=DataW.trod_bool underlying4 h1;injection hb with hb _
 injection hm with hm _
 subst hb hm
 match cs,hl with
 | [c0,c1],_=>
  simp at KY RH;subst KY RH;exact⟨⟨m,b⟩,rfl⟩
def acU {cs:LV} {y:DataW H×List MemPlace} (hl:cs.length=3) (hc:DataW.trod enc prog W 0 (λ_=>true) true n 97 cs=some y): ∃x:bI,cs=aM x/\fits x.n:=by
 have hf:=nG underlying97 kR hc kR hl;obtain⟨v0,_,_,KY,h0⟩:=hf 0 _ rfl;obtain⟨v1,_,_,RH,h1⟩:=hf 1 _ rfl;obtain⟨v2,_,_,hv2,h2⟩:=hf 2 _ rfl;obtain⟨b,hb,_,_⟩:=DataW.trod_int underlying3 h0;obtain⟨m,hm,_,wm⟩:=DataW.trod_int underlying2 h1;obtain⟨s,hs,_⟩:=DataW.trod_string underlying9 h2;injection hb with hb _
 injection hm with hm _
 injection hs with hs _
 subst hb hm hs
 match cs,hl with
 | [c0,c1,c2],_=>
  simp at KY RH hv2;subst KY RH hv2;refine⟨⟨b,m,s.data.toList⟩,?_,Tc rfl wm⟩;rw[Ej];rfl
def afK {cs:LV} {y:DataW H×List MemPlace} (hl:cs.length=7) (hc:DataW.trod enc prog W 0 (λ_=>true) true n 67 cs=some y): ∃x:bY,cs=aP x:=by
 obtain⟨ys,n',_,_,_,hyl,hf⟩:=DataW.trod_struct underlying67 hc;have hy: ∀j,j<4->∃z,ys[j]? =some z:=λj hj=>⟨_,zaa (by rw[hyl];exact hj)⟩;obtain⟨z0,e0⟩:=hy 0 dC;obtain⟨z1,e1⟩:=hy 1 dC;obtain⟨z2,e2⟩:=hy 2 dC;obtain⟨z3,e3⟩:=hy 3 dC;have h0:DataW.trod enc prog W 0 (λ_=>true) true n' 3 ((cs.drop 0).take (prog.cellsOf 3))=some z0:=(hf 0 _ rfl).trans e0;have h1:DataW.trod enc prog W 0 (λ_=>true) true n' 9 ((cs.drop 1).take (prog.cellsOf 9))=some z1:=(hf 1 _ rfl).trans e1;have h2:DataW.trod enc prog W 0 (λ_=>true) true n' 65 ((cs.drop 2).take (prog.cellsOf 65))=some z2:=(hf 2 _ rfl).trans e2;have h3:DataW.trod enc prog W 0 (λ_=>true) true n' 41 ((cs.drop 4).take (prog.cellsOf 41))=some z3:=(hf 3 _ rfl).trans e3;have c0:prog.cellsOf 3=1:=kR;have c1:prog.cellsOf 9=1:=kR;have c2:prog.cellsOf 65=2:=kR;have c3:prog.cellsOf 41=3:=kR
 match cs,hl with
 | [a0,a1,a2,a3,a4,a5,a6],_=>
  rw[c0]at h0;rw[c1]at h1;rw[c2]at h2;rw[c3]at h3;obtain⟨i,hi,_,_⟩:=DataW.trod_int (cs:=[a0]) underlying3 h0;obtain⟨s,hs,_⟩:=DataW.trod_string (cs:=[a1]) underlying9 h1;obtain⟨t,ht⟩:=acT (cs:=[a2,a3]) rfl h2;obtain⟨c,OM,_⟩:=Qc (cs:=[a4,a5,a6]) rfl h3;refine⟨⟨i,s.data.toList,t,c⟩,?_⟩;have ha:[a0,a1,a2,a3,a4,a5,a6]=[a0]++[a1]++[a2,a3]++[a4,a5,a6]:=rfl;rw[ha,hi,hs,ht,OM,Ej];rfl
def Bf {α:Type} {f:α->LV} {k c:Nat} {A:OA} {l:List α} (hc:l.length<=c) (hm:c<=maxLen) (h:gY W A l.length k (l.flatMap f)):aJ W (.slice A l.length c) f k l:=
 ⟨A,c,rfl,⟨hc,by unfold maxLen at hm;omega⟩,h⟩
def acV (hv:Value.okWide prog W r base 22 v) (h:DataW.Trod enc prog W 0 (λ_=>true) true 22 v d ps): ∃l:List bY,aJ W v aP 7 l:=by
 obtain⟨A,c,l,rfl,h1,h2,h3,h4⟩:=Rp (f:=aP) (good:=λ_:bY=>True) (s:=7) underlying22 kR (λ_=>rfl) (λn cs y hl hc=>(afK hl hc).imp λ_ h=>⟨h,trivial⟩) hv h;exact⟨l,Bf h1 h2 h3⟩
end
end Go.Proofs.Mw
