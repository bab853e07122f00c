/-
 The program's words of steps,walked.
-/
import Derived.Test.YtkfpleidaoaonaaGreatDoorNu1
import Derived.Test.YtkfpleidaoaonaaGreatDoorNu3
import Derived.Test.YtkfpleidaoaonaaGreatDoorNu10
import Derived.Lib.ItoaLen
import Derived.Maps.RangeRun
set_option linter.unusedVariables false
set_option linter.unusedSimpArgs false
namespace Go.Proofs.YtkfpleidaoaonaaGreatDoor
open Go Go.Mw Go.Lib Tryz
set_option maxRecDepth 4000
attribute [local irreducible] FW FL FG FGn gu gy dh gH Qfn Gives
theorem Z7 (b:UInt8):Lib.index [] [b]= -1:=rfl
theorem NT (b:UInt8) (t:L8):Lib.index (b::t) [b]=0:=by
 unfold Lib.index;rw[zac (by simp[List.isPrefixOf])]
theorem LJ {b c:UInt8} (h:c≠b) (t:L8):Lib.index (c::t) [b]=if Lib.index t [b]= -1 then -1 else Lib.index t [b]+1:=by
 rw[Lib.index,zab (by simp[List.isPrefixOf];exact λe=>h e.symm)]
 by_cases h1:Lib.index t [b]= -1<;>simp[h1]
theorem Bq (b:UInt8) (new:L8): ∀(s:L8) (k:Nat),s.count b<=k->Lib.replaceK [b] new k s=s.flatMap λc=>if c=b then new else [c]
 | [],0,_=>rfl
 | [],k+1,_=>by rw[Lib.replaceK,Z7,zac dC];rfl
 | c::t,k,hk=>by
  by_cases h:c=b
  .subst h
   rw[List.count_cons_self]at hk;obtain⟨k,rfl⟩: ∃k',k=k'+1:=⟨k-1,oM⟩;rw[Lib.replaceK_hit [c] new k (c::t) 0 (NT c t),zbg,zac rfl];show []++new++Lib.replaceK [c] new k t=_
   rw[Bq c new t k oM];rfl
  rw[List.count_cons_of_ne h]at hk;rw[zbg,zab h,<-Bq b new t k hk];cases k with
  | zero=>rfl
  | succ k=>
   rw[Lib.replaceK,Lib.replaceK,LJ h]
   by_cases h1:Lib.index t [b]= -1
   .rw[h1];rfl
   have hge:=Lib.index_ge t [b];have e0: ¬(Lib.index t [b]== -1)=true:=by simpa using h1
   have e1: ¬(Lib.index t [b]+1== -1)=true:=by simp;omega
   rw[zab h1,zab e0,zab e1];have e2:(Lib.index t [b]+1).toNat=(Lib.index t [b]).toNat+1:=oM;have e3:(Lib.index t [b]).toNat+1+[b].length=((Lib.index t [b]).toNat+[b].length)+1:=oM;rw[e2,e3,zde,zeo];rfl
theorem NU (b:UInt8) (new s:L8) (h:new≠[b]):Lib.replaceAll s [b] new=s.flatMap λc=>if c=b then new else [c]:=by
 unfold Lib.replaceAll Lib.replace;rw[zab (by simpa using λe=>h e.symm)];refine Bq b new s _ ?_;unfold Lib.replaceNum;rw[zac (.inl dC),Lib.count_one];exact zbf _
theorem Ro (w:Wd) (k:Nat) (os:Array Obj):Kept noB w (Go.Sort.grow (w.drewN k) os):=by
 refine⟨rfl,rfl,rfl,?_,λb hb _=>?_⟩
 .show w.heap.size<=(w.heap++os).size
  rw[Array.size_append];omega
 show(w.heap++os)[b]? =w.heap[b]?
 rw[zfs hb]
section
variable {w:Wd}
theorem Br (n:Int) (hn:fits n) (hT:fA w):aN prog 244 [.int .i64 n,I 10] w λv w'=>v=str (Lib.itoa n)/\Kept noB w w':=
 Calls.mono (Tryz.strconv_FormatInt_10 n hn.1 hn.2 w hT.pow) λe w' he=>by
  obtain⟨rfl,k,os,rfl⟩:=he;exact⟨rfl,Ro w k os⟩
theorem FD (b:Bool):aN prog 245 [.bool b] w λv w'=>v=str (if b=true then [116,114,117,101]else [102,97,108,115,101])/\w=w':=
 nD (by
  have:=Tryz.strconv_FormatBool b w;cases b<;>exact this)
theorem QC (l:L8) (hl:l.length<=10000000) (hT:fA w):aN prog 247 [str l,str [32],str [92,117,48,48,50,48]] w λv w'=>v=str (l.flatMap λc=>if c=32 then [92,117,48,48,50,48]else [c])/\Kept noB w w':=by
 obtain⟨m,hm⟩:=hT.len;have h1:=Lib.countB_le ⟨#[32]⟩ dC l.length ⟨l.toArray⟩ (by rw[Mw.size_mk];exact zbf _);rw[Mw.size_mk]at h1
 have:=uS (Tryz.strings_ReplaceAll ⟨l.toArray⟩ ⟨#[32]⟩ ⟨#[92,117,48,48,50,48]⟩ m w (by rw[Mw.size_mk];omega) hm dC (by
  rw[Mw.size_mk];show l.length+Lib.countB ⟨l.toArray⟩ ⟨#[32]⟩*6<=_
  omega))
 have e:Lib.replaceAll l [32] [92,117,48,48,50,48]=l.flatMap λc=>if c=32 then [92,117,48,48,50,48]else [c]:=NU 32 _ l dC
 rw[<-e];exact this
theorem WR:aN prog 249 [] w λv w'=>∃b:Nat,v=.slice (some ⟨b,0,none⟩) 12 12/\True/\Turn noB (blk b (nX.flatMap iW) 9) w w':=by
 have H:=Sep.aL w;refine ab7 func249 rfl rfl rfl ?_;refine Zb1 ?_;refine Bs H (nX.flatMap iW) (λb1 w3 H3 k2=>?_);refine Zb1 ?_;exact⟨b1,rfl,trivial,H3.turn⟩
theorem WS (x:bJ) (hm:jM x=true) (hf:fits x.n) (hT:fA w):aN prog 179 [agg (aD x)] w λv w'=>v=str (iY x)/\Kept noB w w':=by
 have H:=Sep.aL w;have qp:=DW hf.1 hf.2;obtain⟨res,ay⟩: ∃res,res=iY x:=⟨_,rfl⟩;rw[<-ay];unfold iY at ay;unfold jM at hm;refine eP func179 rfl rfl rfl rfl ?_;refine Sr (dz H (cs:=aD x) rfl (h:=λb0 w2 H2 k0=>?_));refine Za5 ?_;refine Qn (Cp rfl (λy8=>?_) (λy8=>?_))
 .rw[zac y8]at ay hm
  refine Zb2 ?_;refine aF H2 (Br x.n hf (hT.keep H2.kept)) (h:=λwa Ha ka=>?_);refine Zb2 ?_;exact⟨by rw[ay];rfl,Ha.kept⟩
 rw[zab y8]at ay hm;refine Za2 ?_;refine Qn (Cp rfl (λIa=>?_) (λIa=>?_))
 .rw[zac Ia]at ay hm
  refine Zb2 ?_;refine aF H2 (Br x.n hf (hT.keep H2.kept)) (h:=λwb Hb kb=>?_);refine Zb1 ?_;exact⟨by rw[ay];rfl,Hb.kept⟩
 rw[zab Ia]at ay hm;refine Za2 ?_;refine Qn (Cp rfl (λIb=>?_) (λIb=>?_))
 .rw[zac Ib]at ay hm
  refine Zb3 ?_;refine gX (FD (decide (x.n=1))) (h:=?_);refine Zb1 ?_;exact⟨by rw[ay];by_cases h1:x.n=1<;>simp only[h1,decide_true,decide_false,if_true,if_false]<;>rfl,H2.kept⟩
 rw[zab Ib]at ay hm;refine Za2 ?_;refine Qn (Cp rfl (λIc=>?_) (λIc=>?_))
 .rw[zac Ic]at ay hm
  simp only[decide_eq_true_eq]at hm;obtain⟨_,hlen,p9⟩:=hm;have Gd:=ae0 x.s;refine Zb2 ?_;refine aF H2 (adg x.s oM (hT.keep H2.kept).utf) (h:=λwc Hc kc=>?_);rw[show Lc x.s=(yM x.s,0) by unfold Lc;rw[zac p9]];refine Zb6 ?_;refine aF Hc (QC (yM x.s) oM (hT.keep Hc.kept)) (h:=λwd Hd kd=>?_);refine Zb1 ?_;exact⟨by rw[ay];rfl,Hd.kept⟩
 rw[zab Ic]at ay hm;refine Za2 ?_;refine Qn (Cp rfl (λId=>?_) (λId=>?_))
 .rw[zac Id]at ay hm
  simp only[decide_eq_true_eq]at hm;obtain⟨CQ,hlen⟩:=hm
  have fq:gN jD ⟨false,0,x.s⟩=0:=by
   have e:isC jD.kind ⟨false,0,x.s⟩=decide ((0:Int)=0/\x.s.length<=1024):=rfl;have e1:qK jD=true:=rfl;unfold gN;rw[e1,zab dC,zab sM,e,zac (by simp[hlen])]
  refine Sr (Vb (bD jD) ?_);refine Zb2 ?_;refine Vb (aj ⟨false,0,x.s⟩) ?_;refine aF H2 (NS ⟨false,0,x.s⟩ ⟨(by show(-9223372036854775808:Int)<=0;decide),(by show(0:Int)<=9223372036854775807;decide)⟩ (hT.keep H2.kept).utf) (h:=λwe He ke=>?_);rw[show xw ⟨false,0,x.s⟩=(120::AX x.s,0)from zac fq];refine Zb7 ?_;exact⟨by rw[ay];rfl,He.kept⟩
 rw[zab Id]at ay hm;refine Za2 ?_;refine Qn (Cp rfl (λIe=>?_) (λIe=>?_))
 .rw[zac Ie]at ay hm
  simp only[decide_eq_true_eq]at hm;refine Zb2 ?_;refine aF H2 (VY x.n) (h:=λwf Hf kf=>?_);refine Zb1 ?_;exact⟨by rw[ay];rfl,Hf.kept⟩
 rw[zab Ie]at ay hm;simp only[decide_eq_true_eq]at hm;obtain⟨h7,h18,_,_⟩:=hm;have hg:=ahV h7 h18;rw[<-ay]at hg;have ZN:(((x.kind-7).toNat:Nat):Int)=x.kind-7:=zcw oM;refine Zb0 ?_;refine Ds (λSa wg Hg=>?_);refine Gp Sa 1 rfl rfl (λ_=>(Gives.ou rfl)) (Zb1 ?_);refine GS (Gn rfl (λ_=>(Gives.afP (c:=(((x.kind-7).toNat:Nat):Int)) rfl rfl oM oM)) ?_);refine fO Sa 0 [(3,true),(2,false),(1,true)] rfl kR (WR) rfl kR kR (λv' wh hv=>?_);obtain⟨b1,rfl,_,eB,F1,hq,jw⟩:=hv;have Hh:=Hg.new eB hq (λb hb=>(jw b hb).resolve_left id);have hR:Rd wh (some ⟨b1,0,none⟩) iW 1 nX:=Sep.qJ Hh At0 rfl;refine⟨ah (aY Hh (h:=ah (aK))),?_⟩;refine Gp Sa 4 rfl rfl (λ_=>(Gives.mK (l:=nX) (enc:=iW) rfl rfl hR (jk hg))) (GS (Gt rfl (Gives.TM (f:=0) rfl hR hg rfl) ?_));refine Zb1 ?_;exact⟨rfl,Hh.kept⟩
end
theorem join_eq (sep:UInt8): ∀ws:List (L8),Lib.join ws [sep]=lg sep ws
 | []=>rfl
 | [w]=>Lib.join_one w [sep]
 | w::x::l=>by
  have ih:=join_eq sep (x::l);show _=w++sep::lg sep (x::l)
  rw[<-ih];simp[Lib.join,List.intercalate]
attribute [local irreducible] jM iY
section
variable {w:Wd}
theorem ajh {l:List (L8)} {v:Value} (hr:aM w v iW 1 l) (hl:l.length<=1000000) (hlen:(lg 32 l).length<=140737488355328):aN prog 120 [v,str [32]] w λv' w'=>v'=str (lg 32 l)/\Kept noB w w':=by
 obtain⟨A,c,rfl,⟨hc,hc'⟩,hR⟩:=hr
 by_cases h0:l=[]
 .subst h0
  exact Calls.mono (Tryz.strings_Join_none A c ⟨#[32]⟩ w) λe w' he=>by
   obtain⟨rfl,rfl⟩:=he;exact⟨rfl,Kept.refl _ _⟩
 have Zo:0<l.length:=zfb.2 h0;obtain⟨ad,rfl⟩:=hR.addr Zo;obtain⟨x0,hx0⟩:=get_some Zo;obtain⟨ad',e0,Qj⟩:=hR.cell (f:=0) hx0 rfl;injection e0 with e0;subst e0
 have Cm:=World.cell?_spot Qj;obtain⟨bk,o,sp⟩:=ad;have amF:sp=none:=Cm;subst amF
 have hbk:bk<w.heap.size:=by
  refine Classical.byContradiction λhn=>?_;unfold World.cell? at Qj;rw[zdi (by show w.heap.size<=bk;omega)]at Qj;cases Qj
 have yV:(l.map λs:L8=>(⟨s.toArray⟩:ByteArray)).map (·.data.toList)=l:=by
  rw[zcy];exact(zco λs _=>rfl).trans (List.map_id l)
 have:=uS (Tryz.strings_Join bk o c (l.map λs=>⟨s.toArray⟩) ⟨#[32]⟩ w (λj x hj=>by
  rw[zcf]at hj;obtain⟨s,hs,rfl⟩:=zbb.1 hj;obtain⟨ad',e1,hcs⟩:=hR.cell (f:=0) hs rfl;injection e1 with e1;subst e1
  rw[Nat.mul_one,zfj,Addr.add_lit]at hcs;exact hcs) hbk (by rw[zae];omega) (by rw[zae];exact hc) (by rw[yV];show(Lib.join l [32]).length<=_;rw[join_eq];exact hlen))
 rw[yV,zae]at this;have e:Lib.join l [32]=lg 32 l:=join_eq 32 l;rw[<-e];exact this
theorem WT {l:List bJ} {vl:Value} (hl:aM w vl aD 3 l) (hx: ∀x∈l,fits x.n) (hT:fA w):aN prog 119 [vl] w λv w'=>v=.tuple #[str (jR l).1,I (jR l).2]/\Kept noB w w':=by
  obtain⟨C,n,rfl,⟨hn,Zp⟩,hC⟩:=hl;have H:=Sep.aL w;obtain⟨res,ay⟩: ∃res,res=jR l:=⟨_,rfl⟩;rw[<-ay];unfold jR at ay;refine eP func119 rfl rfl rfl rfl ?_;refine Za5 ?_;refine Qn (Cp rfl (λLB=>?_) (λLB=>?_))
  . rw[zac oM]at ay
    refine Zb2 ?_;exact⟨by rw[ay];rfl,H.kept⟩
  rw[zab oM]at ay;refine Zb4 ?_;have Ha:=Sep.lZ H 9 1 iW;refine aP (λx:Nat×Value=>[(0,.slice C l.length n),(4,x.2),(10,.slice C l.length n),(11,I l.length),(12,I x.1)]) (λx w'=>(x.1<=l.length/\∀(j:Nat) y,j<x.1->l[j]? =some y->jM y=true)/\Sep w noB [bW 9 1 iW x.2 ((l.take x.1).map iY)] w') (λx _=>l.length-x.1) (0,.slice none 0 0) tR ⟨⟨zak _,λj x hj=>zat hj (zen j)⟩,Ha⟩ (λx τ wa hI=>?_);obtain⟨i,v1⟩:=x;obtain⟨⟨hi,J8⟩,Ha⟩:=hI;dsimp only at hi J8 Ha;have yV:((l.take i).map iY).length=i:=by rw[zae,zag];omega
  try simp only[dA,like,bB,bY]
  refine Za1 ?_;refine Qn (fC (Cp rfl (λIa=>?_) (λIa=>?_)))
  . have bX:i<l.length:=oM
    obtain⟨x,Kk⟩:=get_some bX;have hfx:=hx x (zao Kk);have tF:(l.take (i+1)).map iY=(l.take i).map iY++[iY x]:=by rw[zav,Kk,zam];rfl
    refine Zb2 ?_;refine aW Ha (h:=λb6 wb Hb ka=>?_);refine au Hb (h:=λwc Hc=>?_);refine Zb1 ?_;refine aF Hc (abt x hfx (hT.keep Hc.kept).utf) (h:=λwd Hd kb=>?_);refine Za1 ?_;refine Qn (Cd rfl (λIb=>?_) (λIb=>?_))
    . have qR:l.all jM=false:=by
        rw[<-zdm,zaz];intro h;have:=h x (zao Kk);rw[this]at Ib;cases Ib
      rw[zac qR]at ay;refine Zb2 ?_;exact⟨by rw[ay];rfl,Hd.kept⟩
    have Zq:jM x=true:=by simpa using Ib
    refine Zb2 ?_;refine aF Hd (WS x Zq hfx (hT.keep Hd.kept)) (h:=λwe He kc=>?_);refine Bs He ([iY x].flatMap iW) (λbs wf Hf kd=>?_);refine gP Hf (news:=[iY x]) At1 (by rw[yV];unfold maxLen;simp;omega) (by rw[yV];show(i+1)*16<=_;omega) (by intro u hu;simp only[zbg,zep,iW,zci,zap,zaj,or_false]at hu;subst hu;rfl) (h:=?_);intro v2 wg Hg;rw[<-tF]at Hg;refine Zb3 ?_;exact ak (i+1,v2) tR ⟨⟨dO,λj y hj hy=>by
    by_cases e:j=i
    . subst e;rw[Kk]at hy;injection hy with hy;rw[<-hy];exact Zq
    exact J8 j y (by dsimp only at hj;omega) hy⟩,(Hg.aJ).firsts (l:=[_])⟩ dO
  have qp:i=l.length:=oM
  have lQ:l.all jM=true:=zaz.2 λx hxm=>by
    obtain⟨j,hj⟩:=zdh hxm;exact J8 j x (by have:=jk hj;omega) hj
  rw[zab (by rw[lQ];simp)]at ay;rw[qp,zbl]at Ha;rw[qp,zbl]at yV
  have hlen:(lg 32 (l.map iY)).length<=(6146+1)*l.length:=by
    have:=DX 32 (k:=6146) (ws:=l.map iY) λw hw=>by
      obtain⟨x,hxm,rfl⟩:=zaq.1 hw;exact YI (zaz.1 lQ x hxm) (hx x hxm)
    rw[zae]at this;exact this
  obtain⟨B,cb,rfl,Ul,hB⟩:=Sep.eO Ha At0;refine Zb1 ?_;refine aF Ha (ajh (w:=wa) ⟨B,cb,rfl,⟨Ul,Sep.ah1 Ha At0⟩,mP Ha At0⟩ oM oM) (h:=λwh Hh ke=>?_);refine Zb2 ?_;exact⟨by rw[ay];rfl,Hh.kept⟩
end
end Go.Proofs.YtkfpleidaoaonaaGreatDoor
namespace Go.Proofs.YtkfpleidaoaonaaGreatDoor
open Go Go.Mw Go.Lib Tryz
set_option maxRecDepth 4000
attribute [local irreducible] FW FL FG FGn gu gy dh gH Qfn Gives
def vQ (b:Nat) (l:L8) (at_:Nat) (e:Int):HP:=blk b [str l,I at_,I e] 396
def lG (e k:Int):Int:=if e=0 then k else e
def eX (l:L8) (at_:Nat) (e:Int):UInt8×Nat×Int:=if e≠0 then(0,at_,e)else if at_=l.length then(0,at_,3)else(l.getD at_ 0,at_+1,0)
def mZ (l:L8) (at_:Nat) (e:Int) (c:UInt8):Nat×Int:=((eX l at_ e).2.1,if(eX l at_ e).1=c then(eX l at_ e).2.2 else lG (eX l at_ e).2.2 41)
def fU (l:L8) (at_:Nat) (e:Int):Nat×Nat×Int:=
 match pY (eX l at_ e).1 with
 | none=>(0,(eX l at_ e).2.1,lG (eX l at_ e).2.2 41)
 | some d=>(d,(eX l at_ e).2.1,(eX l at_ e).2.2)
def qy (l:L8) (at_:Nat) (e:Int) (second:Bool):Nat×Nat×Int:=
 let d0:=fU l at_ e
 let e1:=if second=true/\d0.1≠13 then lG d0.2.2 41 else d0.2.2
 let d1:=fU l d0.2.1 e1
 let n1:=16*d0.1+d1.1
 let e2:=if second≠decide (220<=n1/\n1<=223)then lG d1.2.2 41 else d1.2.2
 let d2:=fU l d1.2.1 e2
 let n2:=16*n1+d2.1
 let d3:=fU l d2.2.1 d2.2.2
 (16*n2+d3.1,d3.2.1,d3.2.2)
theorem take_at {l:L8} {at_:Nat} {e:Int} (h:at_<=l.length):(eX l at_ e).2.1<=l.length:=by
 unfold eX
 split
 .exact h
 split
 .exact h
 dsimp only;omega
theorem uX {l:L8} {at_:Nat} {e:Int} (h:at_<=l.length):(fU l at_ e).2.1<=l.length:=by
 unfold fU
 split<;>exact take_at h
theorem yc (l:L8) (at_:Nat) (e:Int):(fU l at_ e).1<16:=by
 unfold fU
 split
 .exact Nat.zero_lt_succ 15
 rename_i h;exact aeT h
theorem UF {l:L8} {at_:Nat} {e:Int} {s:Bool} (h:at_<=l.length):(qy l at_ e s).2.1<=l.length:=uX (uX (uX (uX h)))
theorem Jl {l:L8} {at_:Nat} {e:Int} {c:UInt8} (h:at_<=l.length):(mZ l at_ e c).1<=l.length:=take_at h
section
variable {w:Wd} {l:L8}
theorem qU {b at_:Nat} {e:Int} {F:NP} (k:Int) (hp:(vQ b l at_ e).ok F w):aN prog 349 [aA b,I k] w λr w'=>r=.tuple #[]/\Turn F (vQ b l at_ (lG e k)) w w':=by
 have H:=Sep.dZ hp;unfold vQ at H;refine dS func349 rfl rfl rfl rfl ?_;refine Za5 ?_;refine Qn (Cp rfl (λLB=>?_) (λLB=>?_))
 .have ay:lG e k=k:=zac LB
  refine Zb4 ?_;refine bM H (h:=λwa Ha=>?_);refine Zb0 ?_;exact⟨rfl,by rw[ay];exact Ha.turn⟩
 have ay:lG e k=e:=zab LB;refine Zb0 ?_;exact⟨rfl,by rw[ay];exact H.turn⟩
theorem NV {b at_:Nat} {e:Int} {F:NP} (hp:(vQ b l at_ e).ok F w) (hl:l.length<=1000000) (ha:at_<=l.length):aN prog 364 [aA b] w λr w'=>r=B (eX l at_ e).1/\Turn F (vQ b l (eX l at_ e).2.1 (eX l at_ e).2.2) w w':=by
 have H:=Sep.dZ hp;unfold vQ at H;obtain⟨res,ay⟩: ∃res,res=eX l at_ e:=⟨_,rfl⟩;rw[<-ay];unfold eX at ay;refine eP func364 rfl rfl rfl rfl ?_;refine Za6 ?_;refine Qn (Cp rfl (λqx=>?_) (λqx=>?_))
 .rw[zac qx]at ay
  refine Zb1 ?_;exact⟨by rw[ay];rfl,by rw[ay];exact H.turn⟩
 have qx:=qx;rw[zab qx]at ay;refine Zb0 ?_;refine Ds (λSa wa Ha=>?_);refine aqD ?_;refine dP Sa kR ?_;refine aU (Cp rfl (λIa=>?_) (λIa=>?_))
 .rw[zac oM]at ay
  refine Zb1 ?_;obtain⟨F0,fZ,iK,aQ⟩:=Ha.focus At0;refine aS (qU (l:=l) 3 fZ) rfl rfl (λv' wb hv=>?_);obtain⟨rfl,eB,F1,hq,hs⟩:=hv;have Hb:=aQ _ F1 _ eB hq hs;have he0:e=0:=zbt.1 qx;have Fy:lG e 3=3:=zac he0;rw[Fy]at Hb;refine Zb1 ?_;exact⟨by rw[ay];rfl,by rw[ay];exact Hb.turn⟩
 rw[zab oM]at ay;refine Zb4 ?_;refine Vc ((at_+1:Nat):Int) ?_;refine Zb2 ?_;refine bM Ha (h:=λwc Hc=>?_);refine Zb0 ?_;refine Ds (λSb wd Hd=>?_);refine Zb8 ?_;refine GS (Gn rfl (λ_=>(Gives.afP (c:=(at_:Int)) rfl rfl oM oM)) ?_);refine GS (Gn rfl (λ_=>(Gives.CO rfl rfl oM)) ?_);refine Zb1 ?_;exact⟨by rw[ay];rfl,by rw[ay];have he0:e=0:=zbt.1 qx;rw[he0]at Hd;exact Hd.turn⟩
theorem NW {b at_:Nat} {e:Int} {F:NP} (c:UInt8) (hp:(vQ b l at_ e).ok F w) (hl:l.length<=1000000) (ha:at_<=l.length):aN prog 348 [aA b,B c] w λr w'=>r=.tuple #[]/\Turn F (vQ b l (mZ l at_ e c).1 (mZ l at_ e c).2) w w':=by
  have H:=Sep.dZ hp;refine dS func348 rfl rfl rfl rfl ?_;refine Zb1 ?_;obtain⟨F0,fZ,iK,aQ⟩:=H.focus At0;refine aS (NV (l:=l) fZ hl ha) rfl rfl (λv' w3 hv=>?_);obtain⟨rfl,eB,F1,hq,hs⟩:=hv;have H3:=aQ _ F1 _ eB hq hs;refine Za4 ?_;refine Qn (Cp rfl (λy8=>?_) (λy8=>?_))
  . have ay:mZ l at_ e c=((eX l at_ e).2.1,lG (eX l at_ e).2.2 41):=by
      unfold mZ;rw[zab (λh=>y8 (by rw[h]))]
    refine Zb1 ?_;obtain⟨F0,fZ,iK,aQ⟩:=H3.focus At0;refine aS (qU (l:=l) 41 fZ) rfl rfl (λv' wa hv=>?_);obtain⟨rfl,eB,F1,hq,hs⟩:=hv;have Ha:=aQ _ F1 _ eB hq hs;refine Zb0 ?_;exact⟨rfl,by rw[ay];exact Ha.turn⟩
  have ay:mZ l at_ e c=((eX l at_ e).2.1,(eX l at_ e).2.2):=by
    unfold mZ;rw[zac (UInt8.toNat_inj.1 (by have h:=y8;omega))]
  refine Zb0 ?_;exact⟨rfl,by rw[ay];exact H3.turn⟩
theorem Nl (l:L8):l6 l=if(Lib.decodeGo ⟨l.toArray⟩).1=65533/\(Lib.decodeGo ⟨l.toArray⟩).2<2 then none else some (Lib.decodeGo ⟨l.toArray⟩):=by
 by_cases h0:l=[]
 .subst h0;rfl
 have hd:Lib.decodeGo ⟨l.toArray⟩=decodeL l:=by
  unfold Lib.decodeGo;rw[zab (by rw[Mw.size_mk];exact λe=>h0 (zbi e))];rfl
 rw[hd];cases hn:l6 l with
 | none=>
  unfold l6 at hn
  split at hn
  .rename_i h
   rcases h with h | ⟨h1,h2⟩
   .exact zat h h0
   rw[zac ⟨h1,oM⟩]
  cases hn
 | some p=>
  obtain⟨r,n⟩:=p;obtain⟨e1,h1,_,_⟩:=xV hn;rw[e1,zab];rintro⟨h2,h3⟩;dsimp only at h2 h3;unfold l6 at hn;rw[zac (.inr ⟨by rw[e1];exact h2,by rw[e1];dsimp only;omega⟩)]at hn;cases hn
theorem afW (l:L8) (hT:pO w):aN prog 366 [str l] w λv w'=>v=.tuple #[I32 (yQ l).1,I (yQ l).2,.bool (l6 l).isSome]/\Kept noB w w':=by
 have H:=Sep.aL w;refine eP func366 rfl rfl rfl rfl ?_;refine Zb4 ?_;refine aF H (uS (Tryz.utf8_DecodeRuneInString ⟨l.toArray⟩ _ (hT.keep H.kept))) (h:=λw6 H6 k5=>?_);refine Zb8 ?_;refine aC (t:=12) rfl (λSa=>?_) (λSa=>?_)
 .have hr:=Sa
  refine Za3 ?_;refine Qn (Cp rfl (λIa=>?_) (λIa=>?_))
  .have ay:=Nl l
   rw[zac ⟨oM,oM⟩]at ay;have Zr:yQ l=(0,0):=by unfold yQ;rw[ay];rfl
   refine Zb3 ?_;exact⟨by rw[Zr,ay];rfl,H6.kept⟩
  have ay:=Nl l;rw[zab (λh=>oM)]at ay;refine Zb5 ?_;have ay:=Nl l;rw[zab oM]at ay;have Zr:yQ l=Lib.decodeGo ⟨l.toArray⟩:=by unfold yQ;rw[ay];rfl
  exact⟨by rw[Zr,ay];rfl,H6.kept⟩
 have hr:=Sa;refine Zb6 ?_;have ay:=Nl l;rw[zab oM]at ay;have Zr:yQ l=Lib.decodeGo ⟨l.toArray⟩:=by unfold yQ;rw[ay];rfl
 exact⟨by rw[Zr,ay];rfl,H6.kept⟩
end
theorem aqh (c:UInt8):bits .or .u8 (c.toNat:Int) 32=((c||| 32).toNat:Int):=by
 have key: ∀i:Fin 256,bits .or .u8 (i.val:Int) 32=((i.val.toUInt8||| 32).toNat:Int):=by decide+kernel
 have:=key ⟨c.toNat,c.toNat_lt⟩;have e:(c.toNat).toUInt8=c:=sM;simpa only[e]using this
theorem adk (c:UInt8):pY c=if Lib.indexByte vV (c||| 32)<0\/c.toNat<48\/(57<c.toNat/\c.toNat<65)then none else some (Lib.indexByte vV (c||| 32)).toNat:=by
 have key: ∀i:Fin 256,pY i.val.toUInt8=if Lib.indexByte vV (i.val.toUInt8||| 32)<0\/i.val.toUInt8.toNat<48\/(57<i.val.toUInt8.toNat/\i.val.toUInt8.toNat<65)then none else some (Lib.indexByte vV (i.val.toUInt8||| 32)).toNat:=by decide+kernel
 have:=key ⟨c.toNat,c.toNat_lt⟩;have e:(c.toNat).toUInt8=c:=sM;simpa only[e]using this
section
variable {w:Wd} {l:L8}
theorem El {b at_:Nat} {e:Int} {F:NP} (hp:(vQ b l at_ e).ok F w) (hl:l.length<=1000000) (ha:at_<=l.length):aN prog 372 [aA b] w λr w'=>r=I (fU l at_ e).1/\Turn F (vQ b l (fU l at_ e).2.1 (fU l at_ e).2.2) w w':=by
 have H:=Sep.dZ hp;obtain⟨c,hc⟩: ∃c,c=(eX l at_ e).1:=⟨_,rfl⟩;have V8:=c.toNat_lt;have Cn:=adk c;refine eP func372 rfl rfl rfl rfl ?_;refine Zb2 ?_;obtain⟨F0,fZ,iK,aQ⟩:=H.focus At0;refine aS (NV (l:=l) fZ hl ha) rfl rfl (λv' w4 hv=>?_);obtain⟨rfl,eB,F1,hq,hs⟩:=hv;have H4:=aQ _ F1 _ eB hq hs;rw[<-hc];refine Zb2 ?_;refine Vv (Gives.orE rfl rfl (aqh c)) (gX (Bp vV (c||| 32)) (h:=?_));refine Zb4 ?_;refine aC (t:=12) rfl (λSa=>?_) (λSa=>?_)
 .refine Zb4 ?_
  have ay:fU l at_ e=(0,(eX l at_ e).2.1,lG (eX l at_ e).2.2 41):=by
   unfold fU;rw[<-hc,Cn,zac oM]
  obtain⟨F0,fZ,iK,aQ⟩:=H4.focus At0;refine aS (qU (l:=l) 41 fZ) rfl rfl (λv' wa hv=>?_);obtain⟨rfl,eB,F1,hq,hs⟩:=hv;have Ha:=aQ _ F1 _ eB hq hs;refine Zb1 ?_;exact⟨by rw[ay];rfl,by rw[ay];exact Ha.turn⟩
 refine Zb4 ?_;refine aC (t:=16) rfl (λSb=>?_) (λSb=>?_)
 .refine Zb2 ?_
  have ay:fU l at_ e=(0,(eX l at_ e).2.1,lG (eX l at_ e).2.2 41):=by
   unfold fU;rw[<-hc,Cn,zac oM]
  obtain⟨F0,fZ,iK,aQ⟩:=H4.focus At0;refine aS (qU (l:=l) 41 fZ) rfl rfl (λv' wb hv=>?_);obtain⟨rfl,eB,F1,hq,hs⟩:=hv;have Hb:=aQ _ F1 _ eB hq hs;refine Zb1 ?_;exact⟨by rw[ay];rfl,by rw[ay];exact Hb.turn⟩
 refine Zb3 ?_;refine aC (t:=19) rfl (λSc=>?_) (λSc=>?_)
 .refine Za4 ?_
  refine Qn (Cp rfl (λIa=>?_) (λIa=>?_))
  .refine Zb1 ?_
   have ay:fU l at_ e=(0,(eX l at_ e).2.1,lG (eX l at_ e).2.2 41):=by
    unfold fU;rw[<-hc,Cn,zac oM]
   obtain⟨F0,fZ,iK,aQ⟩:=H4.focus At0;refine aS (qU (l:=l) 41 fZ) rfl rfl (λv' wc hv=>?_);obtain⟨rfl,eB,F1,hq,hs⟩:=hv;have Hc:=aQ _ F1 _ eB hq hs;refine Zb1 ?_;exact⟨by rw[ay];rfl,by rw[ay];exact Hc.turn⟩
  refine Zb2 ?_
  have ay:fU l at_ e=((Lib.indexByte vV (c||| 32)).toNat,(eX l at_ e).2.1,(eX l at_ e).2.2):=by
   unfold fU;rw[<-hc,Cn,zab oM]
  have hn:(((Lib.indexByte vV (c||| 32)).toNat:Nat):Int)=Lib.indexByte vV (c||| 32):=zcw oM;exact⟨by rw[ay];show _=I (((Lib.indexByte vV (c||| 32)).toNat:Nat):Int);rw[hn];rfl,by rw[ay];exact H4.turn⟩
 refine Zb4 ?_
 have ay:fU l at_ e=((Lib.indexByte vV (c||| 32)).toNat,(eX l at_ e).2.1,(eX l at_ e).2.2):=by
  unfold fU;rw[<-hc,Cn,zab oM]
 have hn:(((Lib.indexByte vV (c||| 32)).toNat:Nat):Int)=Lib.indexByte vV (c||| 32):=zcw oM;exact⟨by rw[ay];show _=I (((Lib.indexByte vV (c||| 32)).toNat:Nat):Int);rw[hn];rfl,by rw[ay];exact H4.turn⟩
theorem UG {a b:Nat} (ha:a<268435456) (hb:b<16):bits .or .i64 ((16*a:Nat):Int) (b:Int)=((16*a+b:Nat):Int):=by
 have key:16*a||| b=16*a+b:=(Nat.two_pow_add_eq_or_of_lt (i:=4) hb a).symm
 show IntKind.i64.wrap ((BitVec.ofInt 64 ((16*a:Nat):Int)||| BitVec.ofInt 64 (b:Int)).toNat:Int)=_
 rw[BitVec.toNat_or,ofInt_u64 _ oM,ofInt_u64 _ oM,key,IntKind.wrap_i64];omega
theorem UH {a:Nat} (ha:a<268435456):IntKind.i64.wrap ((a:Int)*2^(Min.min (4:Int).toNat IntKind.i64.bits))=((16*a:Nat):Int):=by
 show IntKind.i64.wrap ((a:Int)*16)=_
 rw[IntKind.wrap_i64];omega
theorem WU {b at_:Nat} {e:Int} {F:NP} (second:Bool) (hp:(vQ b l at_ e).ok F w) (hl:l.length<=1000000) (ha:at_<=l.length):aN prog 365 [aA b,.bool second] w λr w'=>r=I32 (qy l at_ e second).1/\Turn F (vQ b l (qy l at_ e second).2.1 (qy l at_ e second).2.2) w w':=by
 have H:=Sep.dZ hp;obtain⟨d0,hd0⟩: ∃d,d=fU l at_ e:=⟨_,rfl⟩;have h0l:=yc l at_ e;have h0a:=uX (e:=e) ha;rw[<-hd0]at h0l h0a;obtain⟨e1,Um⟩: ∃e1,e1=if second=true/\d0.1≠13 then lG d0.2.2 41 else d0.2.2:=⟨_,rfl⟩
 obtain⟨d1,hd1⟩: ∃d,d=fU l d0.2.1 e1:=⟨_,rfl⟩;have h1l:=yc l d0.2.1 e1;have h1a:=uX (e:=e1) h0a;rw[<-hd1]at h1l h1a;obtain⟨n1,Kl⟩: ∃n,n=16*d0.1+d1.1:=⟨_,rfl⟩;obtain⟨e2,he2⟩: ∃e2,e2=if second≠decide (220<=n1/\n1<=223)then lG d1.2.2 41 else d1.2.2:=⟨_,rfl⟩
 obtain⟨d2,Lx⟩: ∃d,d=fU l d1.2.1 e2:=⟨_,rfl⟩;have h2l:=yc l d1.2.1 e2;have h2a:=uX (e:=e2) h1a;rw[<-Lx]at h2l h2a;obtain⟨d3,hd3⟩: ∃d,d=fU l d2.2.1 d2.2.2:=⟨_,rfl⟩;have h3l:=yc l d2.2.1 d2.2.2;have h3a:=uX (e:=d2.2.2) h2a;rw[<-hd3]at h3l h3a
 have ay:qy l at_ e second=(16*(16*n1+d2.1)+d3.1,d3.2.1,d3.2.2):=by
  rw[hd3,Lx,he2,Kl,hd1,Um,hd0];rfl
 refine dS func365 rfl rfl rfl rfl ?_;refine Zb2 ?_;obtain⟨F0,fZ,iK,aQ⟩:=H.focus At0;refine aS (El (l:=l) fZ hl ha) rfl rfl (λv' w4 hv=>?_);obtain⟨rfl,eB,F1,hq,hs⟩:=hv;have H4:=aQ _ F1 _ eB hq hs;rw[<-hd0];rw[<-hd0]at H4;refine Am ?_;refine Qn (iP (λ_:Unit=>[(0,aA b),(1,.bool second),(5,I d0.1)]) (λ_ w'=>Sep w F [vQ b l d0.2.1 e1] w') ?_ ?_)
 .refine Zb2 ?_
  refine iN (t:=9) rfl (λZt=>?_) (λZt=>?_)
  .have aqT:second=true:=Zt
   refine Za3 ?_;refine Qn (Cp rfl (λIa=>?_) (λIa=>?_))
   .have Zu:lG d0.2.2 41=e1:=by rw[Um,zac ⟨aqT,λh=>Ia (by rw[h];rfl)⟩]
    refine Zb1 ?_;obtain⟨F0,fZ,iK,aQ⟩:=H4.focus At0;refine aS (qU (l:=l) 41 fZ) rfl rfl (λv' wa hv=>?_);obtain⟨rfl,eB,F1,hq,hs⟩:=hv;have Ha:=aQ _ F1 _ eB hq hs;refine Zb0 ?_;rw[Zu]at Ha;exact aG () tR Ha
   have Zu:d0.2.2=e1:=by rw[Um,zab (λh=>h.2 (by have h2:=Ia;omega))]
   refine Zb0 ?_;rw[Zu]at H4;exact aG () tR H4
  have Zu:d0.2.2=e1:=by rw[Um,zab (λh=>by have h2:=Zt;rw[h.1]at h2;cases h2)]
  refine Zb1 ?_;rw[Zu]at H4;exact aG () tR H4
 intro _ τ wb Hb;simp only[dA,like,bB,bY];refine Zb1 ?_;refine Vv (Gives.afU rfl rfl oM (UH oM)) (Mv ?_);obtain⟨F0,fZ,iK,aQ⟩:=Hb.focus At0;refine aS (El (l:=l) fZ hl h0a) rfl rfl (λv' wc hv=>?_);obtain⟨rfl,eB,F1,hq,hs⟩:=hv;have Hc:=aQ _ F1 _ eB hq hs;rw[<-hd1];rw[<-hd1]at Hc;refine Vv (Gives.orE rfl rfl (UG oM h1l)) ?_;rw[<-Kl];refine Am ?_;refine Qn (iP (λ_:Unit=>[(0,aA b),(1,.bool second),(5,I n1)]) (λ_ w'=>Sep w F [vQ b l d1.2.1 e2] w') ?_ ?_)
 .refine Zb4 ?_
  refine aC (t:=23) rfl (λSa=>?_) (λSa=>?_)
  .have hb:decide (220<=n1/\n1<=223)=decide ((n1:Int)<=223):=zbj.2 (by have h:=Sa;omega)
   refine Za4 ?_;refine Qn (Cd rfl (λIb=>?_) (λIb=>?_))
   .have Zu:lG d1.2.2 41=e2:=by rw[he2,zac (λh=>by have h2:=Ib;rw[<-hb,h]at h2;simp at h2)]
    refine Zb1 ?_;obtain⟨F0,fZ,iK,aQ⟩:=Hc.focus At0;refine aS (qU (l:=l) 41 fZ) rfl rfl (λv' wd hv=>?_);obtain⟨rfl,eB,F1,hq,hs⟩:=hv;have Hd:=aQ _ F1 _ eB hq hs;refine Zb0 ?_;rw[Zu]at Hd;exact aG () tR Hd
   have Zu:d1.2.2=e2:=by rw[he2,zab (λh=>h (by have h2:=Ib;rw[hb];revert h2;first | (cases second<;>simp;done) | (generalize decide ((n1:Int)<=223)=D;cases second<;>cases D<;>simp)))]
   refine Zb0 ?_;rw[Zu]at Hc;exact aG () tR Hc
  have hb:decide (220<=n1/\n1<=223)=false:=zar (by have h:=Sa;omega);refine Za2 ?_;refine Qn (Cd rfl (λIc=>?_) (λIc=>?_))
  .have Zu:lG d1.2.2 41=e2:=by rw[he2,zac (λh=>by have h2:=Ic;rw[<-hb,h]at h2;simp at h2)]
   refine Zb1 ?_;obtain⟨F0,fZ,iK,aQ⟩:=Hc.focus At0;refine aS (qU (l:=l) 41 fZ) rfl rfl (λv' we hv=>?_);obtain⟨rfl,eB,F1,hq,hs⟩:=hv;have He:=aQ _ F1 _ eB hq hs;refine Zb0 ?_;rw[Zu]at He;exact aG () tR He
  have Zu:d1.2.2=e2:=by rw[he2,zab (λh=>h (by have h2:=Ic;rw[hb];revert h2;first | (cases second<;>simp;done) | (generalize decide ((n1:Int)<=223)=D;cases second<;>cases D<;>simp)))]
  refine Zb0 ?_;rw[Zu]at Hc;exact aG () tR Hc
 intro _ τ wf Hf;simp only[dA,like,bB];refine Zb1 ?_;refine Vv (Gives.afU rfl rfl oM (UH oM)) (Mv ?_);obtain⟨F0,fZ,iK,aQ⟩:=Hf.focus At0;refine aS (El (l:=l) fZ hl h1a) rfl rfl (λv' wg hv=>?_);obtain⟨rfl,eB,F1,hq,hs⟩:=hv;have Hg:=aQ _ F1 _ eB hq hs;rw[<-Lx];rw[<-Lx]at Hg;refine Vv (Gives.orE rfl rfl (UG oM h2l)) (Zb2 ?_);refine Vv (Gives.afU rfl rfl oM (UH oM)) (Mv ?_);obtain⟨F0,fZ,iK,aQ⟩:=Hg.focus At0;refine aS (El (l:=l) fZ hl h2a) rfl rfl (λv' wh hv=>?_);obtain⟨rfl,eB,F1,hq,hs⟩:=hv;have Hh:=aQ _ F1 _ eB hq hs;rw[<-hd3];rw[<-hd3]at Hh;refine Vv (Gives.orE rfl rfl (UG oM h3l)) (Zb2 ?_);exact⟨by rw[ay];rfl,by rw[ay];exact Hh.turn⟩
end
theorem anT {x:Nat} (h:x<256):bits .and .u8 (x:Int) 7=((x%8:Nat):Int):=by
 have key: ∀i:Fin 256,i.val&&& 7=i.val%8:=dC;have:=u8_and_nat x 7 h dC;rw[key ⟨x,h⟩]at this;exact this
section
variable {w:Wd} {l:L8}
theorem aji (l:L8) (hl:l.length<=1000000) (hT:pO w):aN prog 367 [str l] w λv w'=>(∃b,v=.bool b)/\Kept noB w w':=by
 have H:=Sep.aL w;refine eP func367 rfl rfl rfl rfl ?_;refine Za6 ?_;refine Qn (Cp rfl (λqx=>?_) (λqx=>?_))
 .refine Zb1 ?_
  exact⟨⟨_,rfl⟩,H.kept⟩
 refine Zb1 ?_;refine Vv (Gives.CO (i:=0) rfl rfl oM) ?_;have J9:=(l.getD 0 0).toNat_lt;refine Vv (Gives.BI (i:=(l.getD 0 0).toNat) rfl rfl oM) ?_;rw[Addr.add_lit];refine agN (by rw[zds,Nat.mul_one];exact(hT.keep H.kept).1 _ J9) rfl rfl ?_;refine Zb3 ?_;obtain⟨v,hv⟩: ∃v,v=Lib.firstT (l.getD 0 0).toNat:=⟨_,rfl⟩;have rX:v<256:=by have:=Lib.firstT_cases (l.getD 0 0).toNat;omega
 rw[<-hv];refine Vv (Gives.Gi rfl rfl (anT rX)) (Vv (Gives.sV (c:=((v%8:Nat):Int)) rfl (by rw[IntKind.wrap_i64];omega)) ?_);refine Za1 ?_;refine Qn (Cp rfl (λIa=>?_) (λIa=>?_))
 .refine Zb1 ?_
  exact⟨⟨_,rfl⟩,H.kept⟩
 refine Zb1 ?_;refine Vv (Gives.Gj (m:=v) (s:=4) rfl rfl dC) ?_;obtain⟨q,hq⟩: ∃q,q=v/2^4:=⟨_,rfl⟩;have jA:q<16:=oM;rw[<-hq];refine Vv (Gives.BI (i:=q) rfl rfl oM) ?_;rw[Addr.add_lit,zds]
 refine ad1 (us:=[.int .u8 (Lib.accLo q),.int .u8 (Lib.accHi q)]) (λj u hj=>by
  obtain⟨h1,h2⟩:=(hT.keep H.kept).2 q jA;rw[Addr.add_lit]
  match j,hj with
  | 0,hj=>injection hj with hj;subst hj;rw[zfj,Nat.mul_comm,zds];exact h1
  | 1,hj=>injection hj with hj;subst hj;rw[Nat.mul_comm,zds];exact h2) rfl rfl rfl ?_
 refine aW H (h:=λb27 wa Ha ka=>?_);refine au Ha (h:=λwb Hb=>?_);refine Zb0 ?_;refine Ds (λSa wc Hc=>?_);refine Zb3 ?_;refine fP (t:=25) rfl (λSb=>?_) (λSb=>?_)
 .refine Zb1 ?_
  refine Gp Sa 4 rfl rfl (λ_=>(Gives.CO (i:=1) rfl rfl oM)) (Zb4 ?_);refine fP (t:=31) rfl (λSc=>?_) (λSc=>?_)
  .refine Zb3 ?_
   exact⟨⟨_,rfl⟩,Hc.kept⟩
  refine Zb3 ?_;refine Gp Sa 12 rfl rfl (λ_=>(Gives.CO (i:=1) rfl rfl oM)) (Za3 ?_);refine dP Sa kR ?_;refine aU (Cp rfl (λIb=>?_) (λIb=>?_))
  .refine Zb1 ?_
   exact⟨⟨_,rfl⟩,Hc.kept⟩
  refine Zb3 ?_;refine aC (t:=41) rfl (λSd=>?_) (λSd=>?_)
  .refine Zb1 ?_
   refine Vv (Gives.CO (i:=2) rfl rfl oM) (Zb2 ?_);refine aC (t:=45) rfl (λSe=>?_) (λSe=>?_)
   .refine Zb3 ?_
    exact⟨⟨_,rfl⟩,Hc.kept⟩
   refine Zb1 ?_;refine Vv (Gives.CO (i:=2) rfl rfl oM) (Za3 ?_);refine Qn (Cp rfl (λIc=>?_) (λIc=>?_))
   .refine Zb1 ?_
    exact⟨⟨_,rfl⟩,Hc.kept⟩
   refine Zb1 ?_;exact⟨⟨_,rfl⟩,Hc.kept⟩
  refine Zb2 ?_;exact⟨⟨_,rfl⟩,Hc.kept⟩
 refine Zb4 ?_;refine aC (t:=41) rfl (λSf=>?_) (λSf=>?_)
 .refine Zb1 ?_
  refine Vv (Gives.CO (i:=2) rfl rfl oM) (Zb2 ?_);refine aC (t:=45) rfl (λSg=>?_) (λSg=>?_)
  .refine Zb3 ?_
   exact⟨⟨_,rfl⟩,Hc.kept⟩
  refine Zb1 ?_;refine Vv (Gives.CO (i:=2) rfl rfl oM) (Za3 ?_);refine Qn (Cp rfl (λId=>?_) (λId=>?_))
  .refine Zb1 ?_
   exact⟨⟨_,rfl⟩,Hc.kept⟩
  refine Zb1 ?_;exact⟨⟨_,rfl⟩,Hc.kept⟩
 refine Zb2 ?_;exact⟨⟨_,rfl⟩,Hc.kept⟩
theorem Gq {w w':Wd} {F:NP} {b o:Nat} {v:Value} (hk:Kept F w w') (hF: ¬F b) (h:w.cell? ⟨b,o,none⟩=some v):w'.cell? ⟨b,o,none⟩=some v:=by
 have bX:b<w.heap.size:=by
  refine Classical.byContradiction λhn=>?_;unfold World.cell? at h;rw[zdi dO]at h;cases h
 unfold World.cell? at h ⊢;rw[hk.block b bX hF];exact h
theorem pO.anU {w w':Wd} {F:NP} (h:pO w) (hk:Kept F w w') (h1: ¬F 4) (h2: ¬F 5):pO w':=
 ⟨λc hc=>Gq hk h1 (h.1 c hc),λi hi=>⟨Gq hk h2 (h.2 i hi).1,Gq hk h2 (h.2 i hi).2⟩⟩
theorem WW {w w':Wd} {F:NP} {b at_:Nat} {e:Int} {l:L8} (hp:(vQ b l at_ e).ok F w) (h:pO w) (hk:Kept F w w'):pO w':=by
 have hc:w.cell? ⟨b,0,none⟩=some (str l):=by
  unfold World.cell?;have:=hp.2;simp only[this];rfl
 refine h.anU hk (λhF=>?_) (λhF=>?_)
 .have hb:=(hp.1 _).1 hF
  have h0:=h.1 0 dC;rw[<-hb]at hc;have h1:=hc.symm.trans h0;cases h1
 have hb:=(hp.1 _).1 hF;have h0:=(h.2 0 dC).1;rw[<-hb]at hc;have h1:=hc.symm.trans h0;cases h1
def pW (l:L8) (at_:Nat):L8×Nat×Bool:=
 if(l.getD at_ 0).toNat<32 then([],at_,false)else match l6 (l.drop at_)with
  | some (_,n)=>((l.drop at_).take n,at_+n,true)
  | none=>([],at_,false)
theorem adl {b at_:Nat} {F:NP} (hp:(vQ b l at_ 0).ok F w) (hl:l.length<=1000000) (ha:at_<l.length) (hT:pO w):aN prog 351 [aA b] w λr w'=>∃x:Int,r=str (pW l at_).1/\((pW l at_).2.2=true↔x=0)/\Turn F (vQ b l (pW l at_).2.1 x) w w':=by
 have H:=Sep.dZ hp;unfold vQ at H;obtain⟨res,ay⟩: ∃res,res=pW l at_:=⟨_,rfl⟩;rw[<-ay];unfold pW at ay;have hdl:(l.drop at_).length=l.length-at_:=zbu;have hg0:(l.drop at_).getD 0 0=l.getD at_ 0:=by simp[zau]
 refine eP func351 rfl rfl rfl rfl ?_;refine Zb1 ?_;refine Ds (λEh w4 H4=>?_);refine Zb8 ?_;refine GS (Gn rfl (λ_=>(Gives.sG (l:=l) (i:=at_) rfl rfl oM)) ?_);refine Zb2 ?_;refine aF H4 (afW (l.drop at_) (WW hp hT H4.kept)) (h:=λwa Ha ka=>?_);refine Zb8 ?_;refine Vv (Gives.CO (i:=0) rfl rfl oM) ?_;rw[hg0];refine Za2 ?_;refine Qn (Cp rfl (λIa=>?_) (λIa=>?_))
 .rw[zac oM]at ay
  refine Zb1 ?_;obtain⟨F0,fZ,iK,aQ⟩:=Ha.focus At0;refine aS (qU (l:=l) 41 fZ) rfl rfl (λv' wb hv=>?_);obtain⟨rfl,eB,F1,hq,hs⟩:=hv;have Hb:=aQ _ F1 _ eB hq hs;refine Zb1 ?_;exact⟨41,by rw[ay];rfl,by rw[ay];simp,by rw[ay];exact Hb.turn⟩
 rw[zab oM]at ay;refine Za2 ?_;refine Qn (Cd rfl (λIb=>?_) (λIb=>?_))
 .obtain⟨⟨r,n⟩,hn⟩:=zeu.1 Ib
  obtain⟨_,Kl,hn2,_⟩:=xV hn;have hnp:yQ (l.drop at_)=(r,n):=by unfold yQ;rw[hn];rfl
  rw[hn]at ay;rw[hdl]at hn2;rw[hnp];refine Zb5 ?_;refine Vv (Gives.M5 (c:=((at_+n:Nat):Int)) rfl rfl (by show(at_:Int)+(n:Int)=_;omega) oM) (Zb2 ?_);refine bM Ha (h:=λwc Hc=>?_);refine Zb2 ?_;refine Vv (Gives.lV (l:=l.drop at_) (i:=n) rfl rfl oM) (Zb1 ?_);exact⟨0,by rw[ay];rfl,by rw[ay];simp,by rw[ay];exact Hc.turn⟩
 have hn:l6 (l.drop at_)=none:=by
  cases h:l6 (l.drop at_)with
  | none=>rfl
  | some y=>rw[h]at Ib;cases Ib
 rw[hn]at ay;refine Zb1 ?_;refine aS (aji (l.drop at_) oM (WW hp hT Ha.kept)) rfl rfl (λv' wd hv=>?_);obtain⟨⟨bf,rfl⟩,eB⟩:=hv;have Hd:=Ha.keep eB;refine Za2 ?_;refine Qn (Cd rfl (λIc=>?_) (λIc=>?_))
 .refine Zb1 ?_
  obtain⟨F0,fZ,iK,aQ⟩:=Hd.focus At0;refine aS (qU (l:=l) 3 fZ) rfl rfl (λv' we hv=>?_);obtain⟨rfl,eB,F1,hq,hs⟩:=hv;have He:=aQ _ F1 _ eB hq hs;refine Zb1 ?_;exact⟨3,by rw[ay];rfl,by rw[ay];simp,by rw[ay];exact He.turn⟩
 refine Zb1 ?_;obtain⟨F0,fZ,iK,aQ⟩:=Hd.focus At0;refine aS (qU (l:=l) 40 fZ) rfl rfl (λv' wf hv=>?_);obtain⟨rfl,eB,F1,hq,hs⟩:=hv;have Hf:=aQ _ F1 _ eB hq hs;refine Zb1 ?_;exact⟨40,by rw[ay];rfl,by rw[ay];simp,by rw[ay];exact Hf.turn⟩
end
end Go.Proofs.YtkfpleidaoaonaaGreatDoor
namespace Go.Mw
open Go.RowKit
section
variable {P:Program} {r:Option Nat} {n:Nat} {ops:AO} {Q:Post} {rest:LO} {σ:St} {w w0:Wd} {S:NP} {rs:List HP} {put:HP->List HP} {ty:Td} {pos:String} {after:Array Edge}
theorem adn {d:Nat} {x:Od} {T k e:Td} [ht:IsMap P T k e] {bm:Nat} {es:Array MapEntry} {clock:Nat} (H:Sep w0 S rs w) (hb:w.heap[bm]? =some (.map es clock)) (hx:evF σ x=.map (some bm):=by exact rfl) (hd:Nat.blt d n=true:=by exact rfl)
    (h: ∀b w',Sep w0 S (obj b (.mapIter (some bm) clock #[] clock)::rs) w'->FL P r n ops Q rest (upd σ d (.pointer (some ⟨b,0,none⟩))) w'):FL P r n ops Q (⟨some d,.range T x,ty,pos,after,none⟩::rest) σ w:=
  dU (λ_ _ _ _=>by
    have:=run_range_map (P:=P) w T k e bm es clock ht.und hb;simp only[execOp,hx,zbk,this,zas,zbn]) hd (h _ _ (H.alloc _))
theorem afX {d:Nat} {x:Od} {b bm since c0:Nat} {seen:Array Nat} {es:Array MapEntry} {clock:Nat} (H:Sep w0 S rs w) (hat:At rs (obj b (.mapIter (some bm) since seen c0)) put) (hb:w.heap[bm]? =some (.map es clock)) (hold: ∀x∈es.toList,x.born<since) (hsc:since<=c0)
    (h1: ∀en,en∈(leftOf es seen).toList->∀w',Sep w0 S (put (obj b (.mapIter (some bm) since (seen.push en.born) clock))) w'->FL P r n ops Q rest (upd σ d (.tuple #[.bool true,en.key,en.val])) w')
    (h2:(leftOf es seen).size=0->FL P r n ops Q rest (upd σ d (.tuple #[.bool false])) w) (hx:evF σ x=.pointer (some ⟨b,0,none⟩):=by exact rfl) (hd:Nat.blt d n=true:=by exact rfl):
    FL P r n ops Q (⟨some d,.next x false,ty,pos,after,none⟩::rest) σ w:=by
  have hr:=H.obj hat
  rcases run_next_at (P:=P) w ty b bm since c0 seen es clock hr hb hold hsc with⟨h0,jG⟩ | ⟨en,G7,w1,Ei,jG⟩
  . exact dU (λ_ _ _ _=>by simp only[execOp,hx,zbk,jG,zas,zbn]) hd (h2 h0)
  have jH:Kept noB w w1:=by
    rcases Ei with rfl | rfl
    . exact Kept.refl _ _
    exact Kept.drew w
  have H1:=H.keep jH;have bX:=mU (H1.obj hat);refine dU (w':=Go.ChangeMaps.setBlock w1 b (.mapIter (some bm) since (seen.push en.born) clock)) (λ_ _ _ _=>by simp only[execOp,hx,zbk,jG,zas,zbn]) hd (h1 en G7 _ (H1.setObj hat ⟨rfl,rfl,rfl,by simp[Go.ChangeMaps.setBlock],λj hj iF=>?_⟩ (by simp[Go.ChangeMaps.setBlock,bX])));simp only[Go.ChangeMaps.setBlock,zbz];rw[zab (λe=>iF e.symm)]
theorem Gives.alR {ρ:Od->Value} {x:Od} {b bm since:Nat} {seen:Array Nat} {es:Array MapEntry} {clock:Nat} {en:MapEntry} (hx:ρ x=.pointer (some ⟨b,0,none⟩))
    (hr:w.heap[b]? =some (.mapIter (some bm) since (seen.push en.born) clock)) (hb:w.heap[bm]? =some (.map es clock)) (he:en∈es.toList) (hn:(es.toList.map (·.born)).Nodup):Gives P ρ (.entry x) ty w (.tuple #[en.key,en.val]) w:=λ_ _ _ _=>by
  have:=run_entry_at (P:=P) w b bm since seen es clock en hr hb he hn;simp only[execOp,hx,zbk,this,zas,zbn]
end
end Go.Mw
namespace Go.Proofs.YtkfpleidaoaonaaGreatDoor
open Go Go.Mw Go.Lib
set_option maxRecDepth 4000
attribute [local irreducible] FW FL FG FGn gu gy dh gH Qfn Gives
def LK (c:UInt8):Option UInt8:=if c=34 then some 34 else if c=92 then some 92 else if c=98 then some 8 else if c=102 then some 12 else if c=110 then some 10 else if c=114 then some 13 else if c=116 then some 9 else none
theorem WX: ∀x∈jC.toList,x.born<7:=by
 intro x hx;simp only[jC,zap,zaj,or_false]at hx
 rcases hx with rfl | rfl | rfl | rfl | rfl | rfl | rfl<;>exact dC
theorem Jm:(jC.toList.map (·.born)).Nodup:=by
 show [0,1,2,3,4,5,6].Nodup
 decide
theorem Z8 {x:MapEntry} (hx:x∈jC.toList): ∃k v:UInt8,x.key=.int .i32 (k.toNat:Int)/\x.val=B v/\k.toNat<128/\∀c:UInt8,c=v->LK c=some k:=by
 simp only[jC,zap,zaj,or_false]at hx
 rcases hx with rfl | rfl | rfl | rfl | rfl | rfl | rfl
 .exact⟨34,34,rfl,rfl,dC,λc h=>by subst h;rfl⟩
 .exact⟨92,92,rfl,rfl,dC,λc h=>by subst h;rfl⟩
 .exact⟨8,98,rfl,rfl,dC,λc h=>by subst h;rfl⟩
 .exact⟨12,102,rfl,rfl,dC,λc h=>by subst h;rfl⟩
 .exact⟨10,110,rfl,rfl,dC,λc h=>by subst h;rfl⟩
 .exact⟨13,114,rfl,rfl,dC,λc h=>by subst h;rfl⟩
 exact⟨9,116,rfl,rfl,dC,λc h=>by subst h;rfl⟩
theorem ado {c:UInt8} (h: ∀x∈jC.toList,x.val≠B c):LK c=none:=by
 have g: ∀(k:Int) (v:UInt8) (b:Nat),Bn k (v.toNat:Int) b∈jC.toList->c≠v:=λk v b hm e=>h _ hm (by rw[e];rfl);unfold LK;rw[zab (g 34 34 0 (by simp[jC])),zab (g 92 92 1 (by simp[jC])),zab (g 8 98 2 (by simp[jC])),zab (g 12 102 3 (by simp[jC])),zab (g 10 110 4 (by simp[jC])),zab (g 13 114 5 (by simp[jC])),zab (g 9 116 6 (by simp[jC]))]
theorem anV {a b:UInt8} (h:B a=B b):a=b:=by
 injection h with _ h
 exact UInt8.toNat_inj.1 oM
def adp (l:L8) (n:Nat) (g:Nat×Nat×Int):L8×Nat×Int:=(if g.2.2≠0 then []else Nc (65536+1024*((n:Int)-55296)+g.1-56320),g.2.1,g.2.2)
def WY (l:L8) (n:Nat) (a:Nat×Int):L8×Nat×Int:=adp l n (qy l (mZ l a.1 a.2 117).1 (mZ l a.1 a.2 117).2 true)
def Z9 (l:L8) (h:Nat×Nat×Int):L8×Nat×Int:=
 if 55296<=h.1/\h.1<56320 then WY l h.1 (mZ l h.2.1 h.2.2 92)else(if h.2.2≠0 then []else Nc (h.1:Int),h.2.1,h.2.2)
def Rp (l:L8) (t:UInt8×Nat×Int):L8×Nat×Int:=
 if t.1=47 then([47],t.2.1,t.2.2)
 else match LK t.1 with
  | some k=>([k],t.2.1,t.2.2)
  | none=>Z9 l (qy l t.2.1 (if t.1=117 then t.2.2 else lG t.2.2 41) false)
def CF (l:L8) (at_:Nat) (e:Int):L8×Nat×Int:=Rp l (eX l at_ e)
theorem ab9 (l:L8) (at_:Nat) (e:Int) (s:Bool):(qy l at_ e s).1<65536:=by
 have h0:=yc l at_ e;have h1:=yc l (fU l at_ e).2.1 (if s=true/\(fU l at_ e).1≠13 then lG (fU l at_ e).2.2 41 else(fU l at_ e).2.2);unfold qy;dsimp only;have h2: ∀a b,(fU l a b).1<16:=λa b=>yc l a b
 generalize hg:fU l at_ e=d0 at *
 have a1:=h2 d0.2.1 (if s=true/\d0.1≠13 then lG d0.2.2 41 else d0.2.2)
 generalize fU l d0.2.1 (if s=true/\d0.1≠13 then lG d0.2.2 41 else d0.2.2)=d1 at *
 have a2:=h2 d1.2.1 (if s≠decide (220<=16*d0.1+d1.1/\16*d0.1+d1.1<=223)then lG d1.2.2 41 else d1.2.2)
 generalize fU l d1.2.1 (if s≠decide (220<=16*d0.1+d1.1/\16*d0.1+d1.1<=223)then lG d1.2.2 41 else d1.2.2)=d2 at *
 have a3:=h2 d2.2.1 d2.2.2
 generalize fU l d2.2.1 d2.2.2=d3 at *
 omega
section
variable {w:Wd} {l:L8}
theorem aac {b at_:Nat} {e:Int} {F:NP} (hp:(vQ b l at_ e).ok F w) (hl:l.length<=1000000) (ha:at_<=l.length):aN Tryz.prog 350 [aA b] w λr w'=>r=str (CF l at_ e).1/\Turn F (vQ b l (CF l at_ e).2.1 (CF l at_ e).2.2) w w':=by
 have H:=Sep.dZ hp;obtain⟨res,ay⟩: ∃res,res=CF l at_ e:=⟨_,rfl⟩;rw[<-ay];unfold CF Rp Z9 WY adp at ay;have hta:=take_at (e:=e) ha;obtain⟨t,ht⟩: ∃t,t=eX l at_ e:=⟨_,rfl⟩;rw[<-ht]at hta ay;have Qk:=t.1.toNat_lt;refine eP Tryz.func350 rfl rfl rfl rfl ?_;refine Zb2 ?_;obtain⟨F0,fZ,iK,aQ⟩:=H.focus At0;refine aS (NV (l:=l) fZ hl ha) rfl rfl (λv' w4 hv=>?_);obtain⟨rfl,eB,F1,hq,hs⟩:=hv;have H4:=aQ _ F1 _ eB hq hs;rw[<-ht];rw[<-ht]at H4;refine Za3 ?_;refine Qn (Cp rfl (λy8=>?_) (λy8=>?_))
 .have h47:t.1=47:=UInt8.toNat_inj.1 (by have h:=y8;show t.1.toNat=47;omega)
  rw[zac h47]at ay;refine Zb1 ?_;exact⟨by rw[ay];rfl,by rw[ay];exact H4.turn⟩
 rw[zab (λh=>by rw[h]at y8;exact y8 rfl)]at ay;refine Zb0 ?_;refine aS (WM) rfl rfl (λv' wa hv=>?_);obtain⟨m,rfl,_,eB,F1,tC,jw⟩:=hv;have Ha:=H4.new eB tC (λb hb=>(jw b hb).resolve_left id);refine adn Ha (Ha.obj At0) (h:=λk wb Hb=>?_);refine Zb0 ?_;refine aP (λ_:Array Nat×Nat=>[(0,aA b),(3,B t.1),(12,.pointer (some ⟨k,0,none⟩))]) (λx w'=>(7<=x.2/\∀y∈jC.toList,x.1.contains y.born=true->y.val≠B t.1)/\Sep w F [obj k (.mapIter (some m) 7 x.1 x.2),obj m (.map jC 7),vQ b l t.2.1 t.2.2] w') (λx _=>(leftOf jC x.1).size) (#[],7) tR ⟨⟨zbf _,λy _ hy=>by simp at hy⟩,Hb⟩ (λx τ wc hI=>?_);obtain⟨seen,c0⟩:=x;obtain⟨⟨Qj,aiB⟩,Hc⟩:=hI;dsimp only at Qj aiB Hc
 try simp only[dA,like,bB,bY]
 refine Sr (afX Hc At0 (Hc.obj At1) WX Qj (h1:=λen akA wd Hd=>?_) (h2:=λakA=>?_))
 .obtain⟨vO,hns⟩:=mem_left akA
  obtain⟨kk,vv,nu,hva,as7,hbk⟩:=Z8 vO;have aqV:=left_shrinks jC seen en akA;refine Zb1 ?_;refine Vv (Gives.alR rfl (Hd.obj At0) (Hd.obj At1) vO Jm) ?_;rw[nu,hva];refine Za7 ?_;refine Qn (Cp rfl (λIa=>?_) (λIa=>?_))
  .have hvt:vv=t.1:=UInt8.toNat_inj.1 (by have h:=Ia;omega)
   rw[hbk t.1 hvt.symm]at ay;dsimp only at ay;refine Zb1 ?_;refine Vv (Gives.ahx rfl) ?_;rw[UC kk.toNat oM oM,show encodeRune (kk.toNat:Int)=[kk]from by unfold encodeRune;rw[encodeRuneZ_one oM oM];simp];refine Zb1 ?_;exact⟨by rw[ay];rfl,by rw[ay];exact(Hd.bF).firsts (l:=[_]).turn⟩
  have hvt:vv≠t.1:=λh=>Ia (by rw[h]);refine Zb0 ?_;exact ak (seen.push en.born,7) tR ⟨⟨zbf _,λy hy hyc=>by
  rw[contains_push]at hyc;cases hsy:seen.contains y.born with
  | true=>exact aiB y hy hsy
  | false=>
   rw[hsy,Bool.false_or,beq_iff_eq]at hyc;have:=born_inj Jm hy vO hyc;rw[this,hva];exact λh=>hvt (anV h)⟩,Hd⟩ aqV
 have lQ:=all_seen jC seen akA;have hbn:=ado (λx hx=>aiB x hx (lQ x hx));rw[hbn]at ay;dsimp only at ay;obtain⟨e1,Um⟩: ∃e1,e1=if t.1=117 then t.2.2 else lG t.2.2 41:=⟨_,rfl⟩
 rw[<-Um]at ay;have hhl:=ab9 l t.2.1 e1 false;have hha:=UF (e:=e1) (s:=false) hta;obtain⟨h,hh⟩: ∃h,h=qy l t.2.1 e1 false:=⟨_,rfl⟩;rw[<-hh]at ay hhl hha;refine Vx ?_;refine Qn (fC (FB rfl ?_));refine Nj (zY (CS (Ej (aU (iP (λ_:Unit=>[(0,aA b)]) (λ_ w'=>Sep w F [vQ b l t.2.1 e1] w') ?_ ?_)))))
 .refine Za2 ?_
  refine Qn (Cp rfl (λIb=>?_) (λIb=>?_))
  .have Zu:lG t.2.2 41=e1:=by rw[Um,zab (λh=>Ib (by rw[h];rfl))]
   refine Zb1 ?_;obtain⟨F0,fZ,iK,aQ⟩:=Hc.focus At2;refine aS (qU (l:=l) 41 fZ) rfl rfl (λv' we hv=>?_);obtain⟨rfl,eB,F1,hq,hs⟩:=hv;have He:=aQ _ F1 _ eB hq hs;refine Zb0 ?_;rw[Zu]at He;exact aG () tR ((He.bF).firsts (l:=[_]))
  have Zu:t.2.2=e1:=by rw[Um,zac (UInt8.toNat_inj.1 (by have h:=Ib;show t.1.toNat=117;omega))]
  refine Zb0 ?_;rw[Zu]at Hc;exact aG () tR ((Hc.bF).firsts (l:=[_]))
 intro _ τ wf Hf;simp only[dA,like,bB];refine Zb1 ?_;obtain⟨F0,fZ,iK,aQ⟩:=Hf.focus At0;refine aS (WU (l:=l) false fZ hl hta) rfl rfl (λv' wg hv=>?_);obtain⟨rfl,eB,F1,hq,hs⟩:=hv;have Hg:=aQ _ F1 _ eB hq hs;rw[<-hh];rw[<-hh]at Hg;refine Am ?_;refine Qn (iP (λz:Int×Nat×Int=>[(0,aA b),(6,I32 z.1)]) (λz w'=>res=(if z.2.2≠0 then []else Nc z.1,z.2.1,z.2.2)/\Sep w F [vQ b l z.2.1 z.2.2] w') ?_ ?_)
 .refine Zb3 ?_
  refine aC (t:=31) rfl (λSa=>?_) (λSa=>?_)
  .have hge:=Sa
   refine Za3 ?_;refine Qn (Cp rfl (λIc=>?_) (λIc=>?_))
   .have LA:55296<=h.1/\h.1<56320:=by have h2:=Ic;omega
    rw[zac LA]at ay;have hwa:=Jl (c:=92) (e:=h.2.2) hha;obtain⟨a,haa⟩: ∃a,a=mZ l h.2.1 h.2.2 92:=⟨_,rfl⟩;rw[<-haa]at ay hwa;have hwb:=Jl (c:=117) (e:=a.2) hwa;obtain⟨d,hdd⟩: ∃d,d=mZ l a.1 a.2 117:=⟨_,rfl⟩;rw[<-hdd]at ay hwb;have V9:=ab9 l d.1 d.2 true;obtain⟨g,hgg⟩: ∃g,g=qy l d.1 d.2 true:=⟨_,rfl⟩;rw[<-hgg]at ay V9;refine Zb1 ?_;obtain⟨F0,fZ,iK,aQ⟩:=Hg.focus At0;refine aS (NW (l:=l) 92 fZ hl hha) rfl rfl (λv' wh hv=>?_);obtain⟨rfl,eB,F1,hq,hs⟩:=hv;have Hh:=aQ _ F1 _ eB hq hs;rw[<-haa]at Hh;refine Zb1 ?_;obtain⟨F0,fZ,iK,aQ⟩:=Hh.focus At0;refine aS (NW (l:=l) 117 fZ hl hwa) rfl rfl (λv' wi hv=>?_);obtain⟨rfl,eB,F1,hq,hs⟩:=hv;have Hi:=aQ _ F1 _ eB hq hs;rw[<-hdd]at Hi;refine Zb1 ?_;refine Vv (Gives.amr (c:=(h.1:Int)-55296) rfl rfl (by rw[IntKind.wrap_i32];omega)) ?_;refine Vv (Gives.afU (c:=1024*((h.1:Int)-55296)) rfl rfl oM (by show IntKind.i32.wrap (((h.1:Int)-55296)*1024)=_;rw[IntKind.wrap_i32];omega)) (Vv (Gives.ahQ (c:=65536+1024*((h.1:Int)-55296)) rfl rfl (by rw[IntKind.wrap_i32];omega)) ?_);refine Mv ?_;obtain⟨F0,fZ,iK,aQ⟩:=Hi.focus At0;refine aS (WU (l:=l) true fZ hl hwb) rfl rfl (λv' wj hv=>?_);obtain⟨rfl,eB,F1,hq,hs⟩:=hv;have Hj:=aQ _ F1 _ eB hq hs;rw[<-hgg];rw[<-hgg]at Hj;refine Vv (Gives.ahQ (c:=65536+1024*((h.1:Int)-55296)+g.1) rfl rfl (by rw[IntKind.wrap_i32];omega)) ?_;refine Vv (Gives.amr (c:=65536+1024*((h.1:Int)-55296)+g.1-56320) rfl rfl (by rw[IntKind.wrap_i32];omega)) ?_
    refine Zb1 ?_;exact aG (65536+1024*((h.1:Int)-55296)+g.1-56320,g.2.1,g.2.2) tR ⟨ay,Hj⟩
   have qR: ¬(55296<=h.1/\h.1<56320):=by have h2:=Ic;omega
   rw[zab qR]at ay;refine Zb0 ?_;exact aG ((h.1:Int),h.2.1,h.2.2) tR ⟨ay,Hg⟩
  have qR: ¬(55296<=h.1/\h.1<56320):=by have h2:=Sa;omega
  rw[zab qR]at ay;refine Zb1 ?_;exact aG ((h.1:Int),h.2.1,h.2.2) tR ⟨ay,Hg⟩
 rintro⟨n2,a2,e2⟩ τ wk ⟨V7,Hk⟩;dsimp only at V7 Hk;simp only[dA,like,bB];refine Za5 ?_;refine Qn (Cp rfl (λId=>?_) (λId=>?_))
 .rw[zac Id]at V7
  refine Zb1 ?_;exact⟨by rw[V7];rfl,by rw[V7];exact Hk.turn⟩
 rw[zab Id]at V7;refine Zb3 ?_;exact⟨by rw[V7];rfl,by rw[V7];exact Hk.turn⟩
end
end Go.Proofs.YtkfpleidaoaonaaGreatDoor
namespace Go.Mw
open Go.RowKit
section
variable {P:Program} {r:Option Nat} {n:Nat} {ops:AO} {Q:Post} {rest:LO} {σ:St} {w w0:Wd} {S:NP} {rs:List HP} {put:HP->List HP} {ty:Td} {pos:String} {after:Array Edge}
theorem WZ {d:Nat} {x y:Od} {t u e:Td} [hs:dD P t e] [hu:nZ P u] [hc:Cells P e 1 1] [hz:Zero P e (.int .u8 0)]
    (H:Sep w0 S rs w) (hat:At rs (oD e (.slice none 0 0) []) put) (hx:evF σ x=.slice none 0 0:=by exact rfl) (hy:evF σ y=str []:=by exact rfl) (hd:Nat.blt d n=true:=by exact rfl)
    (h: ∀w',Sep w0 S (put (oD e (.slice none 0 0) [])) w'->FL P r n ops Q rest (upd σ d (.slice none 0 0)) w'):
    FL P r n ops Q (⟨some d,.call {callee:=.builtin .append,args:= #[x,y],argTypes:= #[t,u]},ty,pos,after,none⟩::rest) σ w:=by
  obtain⟨F,hp,_,_⟩:=H.focus hat;obtain⟨i,hi,uD⟩:=zbb.1 hc.size;simp only[Prod.mk.injEq]at uD
  have yT:i.zero=some (.int .u8 0):=by
    have:=hz.run w;simp[zeroValue,typeInfo,hi]at this;cases hq:i.zero with
    | none=>simp[hq]at this
    | some u=>simp[hq]at this;rw[this]
  obtain⟨v',w',jG,h1,h2,h3⟩:=Lib.run_append_own_string (P:=P) w 0 t u ty e i hs.und hu.und hi yT uD.1 uD.2 (.slice none 0 0) 0 [] hp.1 ⟨#[]⟩ dC dC (zak _);have hv:=h3.2 ⟨rfl,rfl⟩;subst hv;refine dU (v:=.slice none 0 0) (w':=w') (λ_ _ _ _=>?_) hd (h w' (H.JF hat h2 h1 (.inl rfl)));have hrun':(Builtin.append_ #[t,u] ty #[.slice none 0 0,.string ⟨#[]⟩]).run P w=.ok (.slice none 0 0) w':=jG;simp only[execOp,resolve,invoke,builtin,zbk,zbn,zas,zcl,zax,zcr,hx,hy,str,hrun']
end
end Go.Mw
namespace Go.Proofs.YtkfpleidaoaonaaGreatDoor
open Go Go.Mw Go.Lib
set_option maxRecDepth 4000
attribute [local irreducible] FW FL FG FGn gu gy dh gH Qfn Gives
section
variable {w:Wd} {l:L8}
theorem M6 {b:Nat} {l news:L8} {F:NP} (iF:l++news≠[]) (hp:(y7 b l).ok F w) (hl:l.length+news.length<=100000000):aN Tryz.prog 181 [aA b,str news] w λr w'=>r=.tuple #[I news.length,.nilIface]/\Turn F (y7 b (l++news)) w w':=by
 obtain⟨a,v,ha,H⟩:=Sep.PG (Sep.dZ hp);refine dS Tryz.func181 rfl rfl rfl rfl ?_;refine Zb3 ?_;obtain⟨F0,fZ,iK,aQ⟩:=H.focus At0;refine aS (D9 ha.1 fZ) rfl rfl (λv' w5 hv=>?_);obtain⟨rfl,eB,F1,hq,hs⟩:=hv;have H5:=aQ _ F1 _ eB hq hs;refine Zb6 ?_;refine Pj H5 (news:=news) At1 oM (h:=?_);intro v2 wa Ha;obtain⟨A2,c2,rfl,_⟩:=Sep.zq Ha At1;refine Zb2 ?_;refine bM Ha (h:=λwb Hb=>?_);refine Zb4 ?_;exact⟨rfl,(Sep.TT ⟨.inr rfl,λe=>zat e iF⟩ Hb).turn⟩
theorem M7 {b:Nat} {F:NP} (hp:(y7 b []).ok F w):aN Tryz.prog 181 [aA b,str []] w λr w'=>r=.tuple #[I 0,.nilIface]/\Turn F (y7 b []) w w':=by
 obtain⟨a,v,ha,H⟩:=Sep.PG (Sep.dZ hp);have hv:=ha.2 rfl;subst hv;refine dS Tryz.func181 rfl rfl rfl rfl ?_;refine Zb3 ?_;obtain⟨F0,fZ,iK,aQ⟩:=H.focus At0;refine aS (D9 ha.1 fZ) rfl rfl (λv' w5 hv=>?_);obtain⟨rfl,eB,F1,hq,hs⟩:=hv;have H5:=aQ _ F1 _ eB hq hs;refine Zb6 ?_;refine WZ H5 At1 (h:=λwa Ha=>?_);refine Zb2 ?_;refine bM Ha (h:=λwb Hb=>?_);refine Zb4 ?_;exact⟨rfl,(Sep.TT ⟨.inr rfl,λ_=>rfl⟩ Hb).turn⟩
theorem vR {b:Nat} {l news:L8} {F:NP} (hp:(y7 b l).ok F w) (hl:l.length+news.length<=100000000):aN Tryz.prog 181 [aA b,str news] w λr w'=>r=.tuple #[I news.length,.nilIface]/\Turn F (y7 b (l++news)) w w':=by
 by_cases h:l++news=[]
 .obtain⟨rfl,rfl⟩:=List.append_eq_nil_iff.1 h
  exact M7 hp
 exact M6 h hp hl
end
end Go.Proofs.YtkfpleidaoaonaaGreatDoor
