/-
 The program's words of steps,walked.
-/
import Derived.Test.YtkfpleidaoaonaaGreatDoorNw1
import Derived.Test.YtkfpleidaoaonaaGreatDoorNw3
import Derived.Test.YtkfpleidaoaonaaGreatDoorNw10
import Derived.Lib.ItoaLen
import Derived.Maps.RangeRun
set_option linter.unusedVariables false
set_option linter.unusedSimpArgs false
namespace Go.Proofs.YtkfpleidaoaonaaGreatDoor
open Go Go.Mw Go.Lib Go.Proofs.Tryz
set_option maxRecDepth 4000
attribute [local irreducible] FW FL FG FGn fZ gG cO gW Qfn Gives
theorem Wp (b:UInt8):Lib.index [] [b]= -1:=rfl
theorem J5 (b:UInt8) (t:L8):Lib.index (b::t) [b]=0:=by
 unfold Lib.index;rw[zac (by simp[List.isPrefixOf])]
theorem Gd {b c:UInt8} (h:c≠b) (t:L8):Lib.index (c::t) [b]=if Lib.index t [b]= -1 then -1 else Lib.index t [b]+1:=by
 rw[Lib.index,zab (by simp[List.isPrefixOf];exact λe=>h e.symm)]
 by_cases h1:Lib.index t [b]= -1<;>simp[h1]
theorem xP (b:UInt8) (new:L8): ∀(s:L8) (k:Nat),s.count b<=k->Lib.replaceK [b] new k s=s.flatMap λc=>if c=b then new else [c]
 | [],0,_=>rfl
 | [],k+1,_=>by rw[Lib.replaceK,Wp,zac dC];rfl
 | c::t,k,hk=>by
  by_cases h:c=b
  .subst h
   rw[List.count_cons_self]at hk;obtain⟨k,rfl⟩: ∃k',k=k'+1:=⟨k-1,oM⟩;rw[Lib.replaceK_hit [c] new k (c::t) 0 (J5 c t),zbc,zac rfl];show []++new++Lib.replaceK [c] new k t=_
   rw[xP c new t k oM];rfl
  rw[List.count_cons_of_ne h]at hk;rw[zbc,zab h,<-xP b new t k hk];cases k with
  | zero=>rfl
  | succ k=>
   rw[Lib.replaceK,Lib.replaceK,Gd h]
   by_cases h1:Lib.index t [b]= -1
   .rw[h1];rfl
   have hge:=Lib.index_ge t [b];have e0: ¬(Lib.index t [b]== -1)=true:=by simpa using h1
   have e1: ¬(Lib.index t [b]+1== -1)=true:=by simp;omega
   rw[zab h1,zab e0,zab e1];have e2:(Lib.index t [b]+1).toNat=(Lib.index t [b]).toNat+1:=oM;have e3:(Lib.index t [b]).toNat+1+[b].length=((Lib.index t [b]).toNat+[b].length)+1:=oM;rw[e2,e3,zcx,zek];rfl
theorem J6 (b:UInt8) (new s:L8) (h:new≠[b]):Lib.replaceAll s [b] new=s.flatMap λc=>if c=b then new else [c]:=by
 unfold Lib.replaceAll Lib.replace;rw[zab (by simpa using λe=>h e.symm)];refine xP b new s _ ?_;unfold Lib.replaceNum;rw[zac (.inl dC),Lib.count_one];exact zbk _
theorem Nl (w:Wd) (k:Nat) (os:Array Obj):Kept noB w (Go.Sort.grow (w.drewN k) os):=by
 refine⟨rfl,rfl,rfl,?_,λb hb _=>?_⟩
 .show w.heap.size<=(w.heap++os).size
  rw[Array.size_append];omega
 show(w.heap++os)[b]? =w.heap[b]?
 rw[zfm hb]
section
variable {w:Wd}
theorem xQ (n:Int) (hn:fits n) (hT:gQ w):Rk prog 244 [.int .i64 n,I 10] w (str (Lib.itoa n)):=
 Calls.mono (Tryz.strconv_FormatInt_10 n hn.1 hn.2 w hT.pow) λe w' he=>by
  obtain⟨rfl,k,os,rfl⟩:=he;exact⟨rfl,Nl w k os⟩
theorem BQ (b:Bool):aY prog 245 [.bool b] w λv w'=>v=str (if b=true then [116,114,117,101]else [102,97,108,115,101])/\w=w':=
 jQ (by
  have:=Tryz.strconv_FormatBool b w;cases b<;>exact this)
theorem MH (l:L8) (hl:l.length<=10000000) (hT:gQ w):Rk prog 247 [str l,str [32],str [92,117,48,48,50,48]] w (str (l.flatMap λc=>if c=32 then [92,117,48,48,50,48]else [c])):=by
 obtain⟨m,hm⟩:=hT.len;have h1:=Lib.countB_le ⟨#[32]⟩ dC l.length ⟨l.toArray⟩ (by rw[Mw.size_mk];exact zbk _);rw[Mw.size_mk]at h1
 have:=qA (Tryz.strings_ReplaceAll ⟨l.toArray⟩ ⟨#[32]⟩ ⟨#[92,117,48,48,50,48]⟩ m w (by rw[Mw.size_mk];omega) hm dC (by
  rw[Mw.size_mk];show l.length+Lib.countB ⟨l.toArray⟩ ⟨#[32]⟩*6<=_
  omega))
 have e:Lib.replaceAll l [32] [92,117,48,48,50,48]=l.flatMap λc=>if c=32 then [92,117,48,48,50,48]else [c]:=J6 32 _ l dC
 rw[<-e];exact this
theorem RN:aY prog 249 [] w λv w'=>∃b:Nat,v=.slice (some ⟨b,0,none⟩) 12 12/\True/\Turn noB (blk b (jZ.flatMap fT) 9) w w':=by
 have H:=Sep.aJ w;refine YL func249 rfl rfl rfl ?_;refine Zb1 ?_;refine Bs H (jZ.flatMap fT) (λb1 _ k _=>?_);refine Zb1 ?_;exact⟨b1,rfl,trivial,k.turn⟩
theorem RO (x:aZ) (hm:iE x=true) (hf:fits x.n) (hT:gQ w):Rk prog 179 [agg (aP x)] w (str (gF x)):=by
 have H:=Sep.aJ w;have oQ:=zV hf.1 hf.2;obtain⟨res,au⟩: ∃res,res=gF x:=⟨_,rfl⟩;rw[<-au];unfold gF at au;unfold iE at hm;refine dI func179 rfl rfl rfl rfl ?_;refine Sr (cB H (cs:=aP x) rfl (h:=λb0 _ k _=>?_));refine Za5 ?_;refine Qn (Cp rfl (λS=>?_) (λS=>?_))
 .rw[zac S]at au hm
  refine Zb2 ?_;refine aD k (xQ x.n hf (hT.keep k.kept)) (h:=λ_ I _=>?_);refine Zb2 ?_;exact⟨by rw[au];rfl,I.kept⟩
 rw[zab S]at au hm;refine Za2 ?_;refine Qn (Cp rfl (λI=>?_) (λI=>?_))
 .rw[zac I]at au hm
  refine Zb2 ?_;refine aD k (xQ x.n hf (hT.keep k.kept)) (h:=λ_ S _=>?_);refine Zb1 ?_;exact⟨by rw[au];rfl,S.kept⟩
 rw[zab I]at au hm;refine Za2 ?_;refine Qn (Cp rfl (λS=>?_) (λS=>?_))
 .rw[zac S]at au hm
  refine Zb3 ?_;refine eY (BQ (decide (x.n=1))) (h:=?_);refine Zb1 ?_;exact⟨by rw[au];by_cases h1:x.n=1<;>simp only[h1,decide_true,decide_false,if_true,if_false]<;>rfl,k.kept⟩
 rw[zab S]at au hm;refine Za2 ?_;refine Qn (Cp rfl (λS=>?_) (λS=>?_))
 .rw[zac S]at au hm
  simp only[decide_eq_true_eq]at hm;obtain⟨_,hlen,VE⟩:=hm;have hql:=ab2 x.s;refine Zb2 ?_;refine aD k (ZR x.s oM (hT.keep k.kept).utf) (h:=λ_ I _=>?_);rw[show FQ x.s=(tT x.s,0) by unfold FQ;rw[zac VE]];refine Zb6 ?_;refine aD I (MH (tT x.s) oM (hT.keep I.kept)) (h:=λ_ I _=>?_);refine Zb1 ?_;exact⟨by rw[au];rfl,I.kept⟩
 rw[zab S]at au hm;refine Za2 ?_;refine Qn (Cp rfl (λI=>?_) (λI=>?_))
 .rw[zac I]at au hm
  simp only[decide_eq_true_eq]at hm;obtain⟨yX,hlen⟩:=hm
  have d9:eF gY ⟨false,0,x.s⟩=0:=by
   have e:isC gY.kind ⟨false,0,x.s⟩=decide ((0:Int)=0/\x.s.length<=1024):=rfl;have e1:nC gY=true:=rfl;unfold eF;rw[e1,zab dC,zab sM,e,zac (by simp[hlen])]
  refine Sr (Vb (aM gY) ?_);refine Zb2 ?_;refine Vb (ah ⟨false,0,x.s⟩) ?_;refine aD k (J4 ⟨false,0,x.s⟩ ⟨(by show(-9223372036854775808:Int)<=0;decide),(by show(0:Int)<=9223372036854775807;decide)⟩ (hT.keep k.kept).utf) (h:=λ_ S _=>?_);rw[show rU ⟨false,0,x.s⟩=(120::xq x.s,0)from zac d9];refine Zb7 ?_;exact⟨by rw[au];rfl,S.kept⟩
 rw[zab I]at au hm;refine Za2 ?_;refine Qn (Cp rfl (λS=>?_) (λS=>?_))
 .rw[zac S]at au hm
  simp only[decide_eq_true_eq]at hm;refine Zb2 ?_;refine aD k (Ro x.n) (h:=λ_ k _=>?_);refine Zb1 ?_;exact⟨by rw[au];rfl,k.kept⟩
 rw[zab S]at au hm;simp only[decide_eq_true_eq]at hm;obtain⟨h7,h18,_,_⟩:=hm;have hg:=afn h7 h18;rw[<-au]at hg;have htn:(((x.kind-7).toNat:Nat):Int)=x.kind-7:=zde oM;refine Zb0 ?_;refine Ds (λk _ S=>?_);refine Gp k 1 rfl rfl (λ_=>(Gives.uU rfl)) (Zb1 ?_);refine Gc k 3 (((x.kind-7).toNat:Nat):Int) ?_;refine rD k 0 [(3,true),(2,false),(1,true)] rfl kR (RN) rfl kR kR (λv' I hv=>?_);obtain⟨b1,rfl,_,bZ,F1,hq,gT⟩:=hv;have a:=S.new bZ hq (λb hb=>(gT b hb).resolve_left id);have hR:Rd I (some ⟨b1,0,none⟩) fT 1 jZ:=Sep.nA a At0 rfl;refine⟨sL,?_⟩;refine Gp k 4 rfl rfl (λ_=>(Gives.jJ (l:=jZ) (enc:=fT) rfl rfl hR (gN hg))) (GS (Gt rfl (Gives.Pd (f:=0) rfl hR hg rfl) ?_));refine Zb1 ?_;exact⟨rfl,a.kept⟩
end
theorem join_eq (sep:UInt8): ∀ws:List (L8),Lib.join ws [sep]=iP sep ws
 | []=>rfl
 | [w]=>Lib.join_one w [sep]
 | w::x::l=>by
  have ih:=join_eq sep (x::l);show _=w++sep::iP sep (x::l)
  rw[<-ih];simp[Lib.join,List.intercalate]
attribute [local irreducible] iE gF
section
variable {w:Wd}
theorem agm {l:List (L8)} {v:Value} (hr:aQ w v fT 1 l) (hl:l.length<=1000000) (hlen:(iP 32 l).length<=140737488355328):Rk prog 120 [v,str [32]] w (str (iP 32 l)):=by
 obtain⟨A,c,rfl,⟨hc,hc'⟩,hR⟩:=hr
 by_cases h0:l=[]
 .subst h0
  exact Calls.mono (Tryz.strings_Join_none A c ⟨#[32]⟩ w) λe w' he=>by
   obtain⟨rfl,rfl⟩:=he;exact⟨rfl,Kept.refl _ _⟩
 have VH:0<l.length:=zez.2 h0;obtain⟨ad,rfl⟩:=hR.addr VH;obtain⟨x0,hx0⟩:=get_some VH;obtain⟨ad',e0,H⟩:=hR.cell (f:=0) hx0 rfl;injection e0 with e0;subst e0
 have F9:=World.cell?_spot H;obtain⟨bk,o,sp⟩:=ad;have ajR:sp=none:=F9;subst ajR
 have hbk:bk<w.heap.size:=by
  refine Classical.byContradiction λhn=>?_;unfold World.cell? at H;rw[zdd (by show w.heap.size<=bk;omega)]at H;cases H
 have Bz:(l.map λs:L8=>(⟨s.toArray⟩:ByteArray)).map (·.data.toList)=l:=by
  rw[zdt];exact(zcw λs _=>rfl).trans (List.map_id l)
 have:=qA (Tryz.strings_Join bk o c (l.map λs=>⟨s.toArray⟩) ⟨#[32]⟩ w (λj x hj=>by
  rw[zcr]at hj;obtain⟨s,hs,rfl⟩:=zav.1 hj;obtain⟨ad',e1,hcs⟩:=hR.cell (f:=0) hs rfl;injection e1 with e1;subst e1
  rw[Nat.mul_one,zff,Addr.add_lit]at hcs;exact hcs) hbk (by rw[zaf];omega) (by rw[zaf];exact hc) (by rw[Bz];show(Lib.join l [32]).length<=_;rw[join_eq];exact hlen))
 rw[Bz,zaf]at this;have e:Lib.join l [32]=iP 32 l:=join_eq 32 l;rw[<-e];exact this
theorem RP {l:List aZ} {vl:Value} (hl:aQ w vl aP 3 l) (hx: ∀x∈l,fits x.n) (hT:gQ w):Rk prog 119 [vl] w (.tuple #[str (iH l).1,I (iH l).2]):=by
  obtain⟨C,n,rfl,⟨hn,hn'⟩,hC⟩:=hl;have H:=Sep.aJ w;obtain⟨res,au⟩: ∃res,res=iH l:=⟨_,rfl⟩;rw[<-au];unfold iH at au;refine dI func119 rfl rfl rfl rfl ?_;refine Za5 ?_;refine Qn (Cp rfl (λS=>?_) (λS=>?_))
  . rw[zac oM]at au
    refine Zb2 ?_;exact⟨by rw[au];rfl,H.kept⟩
  rw[zab oM]at au;refine Zb4 ?_;have S:=Sep.nE H 9 1 fT;refine aR (λx:Nat×Value=>[(0,.slice C l.length n),(4,x.2),(10,.slice C l.length n),(11,I l.length),(12,I x.1)]) (λx w'=>(x.1<=l.length/\∀(j:Nat) y,j<x.1->l[j]? =some y->iE y=true)/\Sep w noB [bJ 9 1 fT x.2 ((l.take x.1).map gF)] w') (λx _=>l.length-x.1) (0,.slice none 0 0) tR ⟨⟨zaq _,λj x hj=>zap hj (zej j)⟩,S⟩ (λx τ a hI=>?_);obtain⟨i,v1⟩:=x;obtain⟨⟨hi,Ev⟩,S⟩:=hI;dsimp only at hi Ev S;have Bz:((l.take i).map gF).length=i:=by rw[zaf,zaj];omega
  try simp only[cK,like,aS,bK]
  refine Za1 ?_;refine Qn (dW (Cp rfl (λb=>?_) (λb=>?_)))
  . have bH:i<l.length:=oM
    obtain⟨x,EC⟩:=get_some bH;have hfx:=hx x (zam EC);have yY:(l.take (i+1)).map gF=(l.take i).map gF++[gF x]:=by rw[zbd,EC,zau];rfl
    refine Zb2 ?_;refine aO S (h:=λb6 _ b _=>?_);refine ak b (h:=λ_ b=>?_);refine Zb1 ?_;refine aD b (Yk x hfx (hT.keep b.kept).utf) (h:=λ_ b _=>?_);refine Za1 ?_;refine Qn (Cd rfl (λc=>?_) (λc=>?_))
    . have nI:l.all iE=false:=by
        rw[<-zdg,zbf];intro h;have:=h x (zam EC);rw[this]at c;cases c
      rw[zac nI]at au;refine Zb2 ?_;exact⟨by rw[au];rfl,b.kept⟩
    have VI:iE x=true:=by simpa using c
    refine Zb2 ?_;refine aD b (RO x VI hfx (hT.keep b.kept)) (h:=λ_ c _=>?_);refine Bs c ([gF x].flatMap fT) (λbs _ c _=>?_);refine gP c (news:=[gF x]) At1 (by rw[Bz];unfold maxLen;simp;omega) (by rw[Bz];show(i+1)*16<=_;omega) (by intro u hu;simp only[zbc,zem,fT,zci,zan,zao,or_false]at hu;subst hu;rfl) (h:=?_);intro v2 c c;rw[<-yY]at c;refine Zb3 ?_;exact aj (i+1,v2) tR ⟨⟨dO,λj y hj hy=>by
    by_cases e:j=i
    . subst e;rw[EC]at hy;injection hy with hy;rw[<-hy];exact VI
    exact Ev j y (by dsimp only at hj;omega) hy⟩,(c.aL).firsts (l:=[_])⟩ dO
  have oQ:i=l.length:=oM
  have jN:l.all iE=true:=zbf.2 λx ZB=>by
    obtain⟨j,hj⟩:=zdc ZB;exact Ev j x (by have:=gN hj;omega) hj
  rw[zab (by rw[jN];simp)]at au;rw[oQ,zbo]at S;rw[oQ,zbo]at Bz
  have hlen:(iP 32 (l.map gF)).length<=(6146+1)*l.length:=by
    have:=zW 32 (k:=6146) (ws:=l.map gF) λw hw=>by
      obtain⟨x,ZB,rfl⟩:=zat.1 hw;exact Vk (zbf.1 jN x ZB) (hx x ZB)
    rw[zaf]at this;exact this
  obtain⟨B,cb,rfl,Po,hB⟩:=Sep.dQ S At0;refine Zb1 ?_;refine aD S (agm (w:=a) ⟨B,cb,rfl,⟨Po,Sep.aft S At0⟩,jG S At0⟩ oM oM) (h:=λ_ c _=>?_);refine Zb2 ?_;exact⟨by rw[au];rfl,c.kept⟩
end
end Go.Proofs.YtkfpleidaoaonaaGreatDoor
namespace Go.Proofs.YtkfpleidaoaonaaGreatDoor
open Go Go.Mw Go.Lib Go.Proofs.Tryz
set_option maxRecDepth 4000
attribute [local irreducible] FW FL FG FGn fZ gG cO gW Qfn Gives
def rz (b:Nat) (l:L8) (at_:Nat) (e:Int):HP:=blk b [str l,I at_,I e] 396
def iU (e k:Int):Int:=if e=0 then k else e
def dx (l:L8) (at_:Nat) (e:Int):UInt8×Nat×Int:=if e≠0 then(0,at_,e)else if at_=l.length then(0,at_,3)else(l.getD at_ 0,at_+1,0)
def jE (l:L8) (at_:Nat) (e:Int) (c:UInt8):Nat×Int:=((dx l at_ e).2.1,if(dx l at_ e).1=c then(dx l at_ e).2.2 else iU (dx l at_ e).2.2 41)
def dR (l:L8) (at_:Nat) (e:Int):Nat×Nat×Int:=
 match mH (dx l at_ e).1 with
 | none=>(0,(dx l at_ e).2.1,iU (dx l at_ e).2.2 41)
 | some d=>(d,(dx l at_ e).2.1,(dx l at_ e).2.2)
def mU (l:L8) (at_:Nat) (e:Int) (second:Bool):Nat×Nat×Int:=
 let d0:=dR l at_ e
 let e1:=if second=true/\d0.1≠13 then iU d0.2.2 41 else d0.2.2
 let d1:=dR l d0.2.1 e1
 let n1:=16*d0.1+d1.1
 let e2:=if second≠decide (220<=n1/\n1<=223)then iU d1.2.2 41 else d1.2.2
 let d2:=dR l d1.2.1 e2
 let n2:=16*n1+d2.1
 let d3:=dR l d2.2.1 d2.2.2
 (16*n2+d3.1,d3.2.1,d3.2.2)
theorem take_at {l:L8} {at_:Nat} {e:Int} (h:at_<=l.length):(dx l at_ e).2.1<=l.length:=by
 unfold dx
 split
 .exact h
 split
 .exact h
 dsimp only;omega
theorem qD {l:L8} {at_:Nat} {e:Int} (h:at_<=l.length):(dR l at_ e).2.1<=l.length:=by
 unfold dR
 split<;>exact take_at h
theorem sK (l:L8) (at_:Nat) (e:Int):(dR l at_ e).1<16:=by
 unfold dR
 split
 .exact Nat.zero_lt_succ 15
 rename_i h;exact abV h
theorem P5 {l:L8} {at_:Nat} {e:Int} {s:Bool} (h:at_<=l.length):(mU l at_ e s).2.1<=l.length:=qD (qD (qD (qD h)))
theorem Dw {l:L8} {at_:Nat} {e:Int} {c:UInt8} (h:at_<=l.length):(jE l at_ e c).1<=l.length:=take_at h
section
variable {w:Wd} {l:L8}
theorem nJ {b at_:Nat} {e:Int} {F:NP} (k:Int) (hp:(rz b l at_ e).ok F w):aY prog 349 [av b,I k] w λr w'=>r=.tuple #[]/\Turn F (rz b l at_ (iU e k)) w w':=by
 have H:=Sep.bW hp;unfold rz at H;refine dF func349 rfl rfl rfl rfl ?_;refine Za5 ?_;refine Qn (Cp rfl (λS=>?_) (λS=>?_))
 .have au:iU e k=k:=zac S
  refine Zb4 ?_;refine bB H (h:=λ_ a=>?_);refine Zb0 ?_;exact⟨rfl,by rw[au];exact a.turn⟩
 have au:iU e k=e:=zab S;refine Zb0 ?_;exact⟨rfl,by rw[au];exact H.turn⟩
theorem J7 {b at_:Nat} {e:Int} {F:NP} (hp:(rz b l at_ e).ok F w) (hl:l.length<=1000000) (ha:at_<=l.length):aY prog 364 [av b] w λr w'=>r=B (dx l at_ e).1/\Turn F (rz b l (dx l at_ e).2.1 (dx l at_ e).2.2) w w':=by
 have H:=Sep.bW hp;unfold rz at H;obtain⟨res,au⟩: ∃res,res=dx l at_ e:=⟨_,rfl⟩;rw[<-au];unfold dx at au;refine dI func364 rfl rfl rfl rfl ?_;refine Za6 ?_;refine Qn (Cp rfl (λk=>?_) (λk=>?_))
 .rw[zac k]at au
  refine Zb1 ?_;exact⟨by rw[au];rfl,by rw[au];exact H.turn⟩
 have k:=k;rw[zab k]at au;refine Zb0 ?_;refine Ds (λS _ I=>?_);refine ank ?_;refine fF S kR ?_;refine bC (Cp rfl (λS=>?_) (λS=>?_))
 .rw[zac oM]at au
  refine Zb1 ?_;obtain⟨F0,dS,gH,aI⟩:=I.focus At0;refine aK (nJ (l:=l) 3 dS) rfl rfl (λv' _ hv=>?_);obtain⟨rfl,bZ,F1,hq,hs⟩:=hv;have S:=aI _ F1 _ bZ hq hs;have he0:e=0:=zca.1 k;have JA:iU e 3=3:=zac he0;rw[JA]at S;refine Zb1 ?_;exact⟨by rw[au];rfl,by rw[au];exact S.turn⟩
 rw[zab oM]at au;refine Zb4 ?_;refine Vc ((at_+1:Nat):Int) ?_;refine Zb2 ?_;refine bB I (h:=λ_ _=>?_);refine Zb0 ?_;refine Ds (λS _ I=>?_);refine Zb8 ?_;refine Gc S 8 (at_:Int) ?_;refine GS (Gn rfl (λ_=>(Gives.yV rfl rfl oM)) ?_);refine Zb1 ?_;exact⟨by rw[au];rfl,by rw[au];have he0:e=0:=zca.1 k;rw[he0]at I;exact I.turn⟩
theorem J8 {b at_:Nat} {e:Int} {F:NP} (c:UInt8) (hp:(rz b l at_ e).ok F w) (hl:l.length<=1000000) (ha:at_<=l.length):aY prog 348 [av b,B c] w λr w'=>r=.tuple #[]/\Turn F (rz b l (jE l at_ e c).1 (jE l at_ e c).2) w w':=by
  have H:=Sep.bW hp;refine dF func348 rfl rfl rfl rfl ?_;refine Zb1 ?_;obtain⟨F0,dS,gH,aI⟩:=H.focus At0;refine aK (J7 (l:=l) dS hl ha) rfl rfl (λv' _ hv=>?_);obtain⟨rfl,bZ,F1,hq,hs⟩:=hv;have k:=aI _ F1 _ bZ hq hs;refine Za4 ?_;refine Qn (Cp rfl (λS=>?_) (λS=>?_))
  . have au:jE l at_ e c=((dx l at_ e).2.1,iU (dx l at_ e).2.2 41):=by
      unfold jE;rw[zab (λh=>S (by rw[h]))]
    refine Zb1 ?_;obtain⟨F0,dS,gH,aI⟩:=k.focus At0;refine aK (nJ (l:=l) 41 dS) rfl rfl (λv' _ hv=>?_);obtain⟨rfl,bZ,F1,hq,hs⟩:=hv;have I:=aI _ F1 _ bZ hq hs;refine Zb0 ?_;exact⟨rfl,by rw[au];exact I.turn⟩
  have au:jE l at_ e c=((dx l at_ e).2.1,(dx l at_ e).2.2):=by
    unfold jE;rw[zac (UInt8.toNat_inj.1 (by have h:=S;omega))]
  refine Zb0 ?_;exact⟨rfl,by rw[au];exact k.turn⟩
theorem JE (l:L8):jg l=if(Lib.decodeGo ⟨l.toArray⟩).1=65533/\(Lib.decodeGo ⟨l.toArray⟩).2<2 then none else some (Lib.decodeGo ⟨l.toArray⟩):=by
 by_cases h0:l=[]
 .subst h0;rfl
 have hd:Lib.decodeGo ⟨l.toArray⟩=decodeL l:=by
  unfold Lib.decodeGo;rw[zab (by rw[Mw.size_mk];exact λe=>h0 (zbe e))];rfl
 rw[hd];cases hn:jg l with
 | none=>
  unfold jg at hn
  split at hn
  .rename_i h
   rcases h with h | ⟨h1,h2⟩
   .exact zap h h0
   rw[zac ⟨h1,oM⟩]
  cases hn
 | some p=>
  obtain⟨r,n⟩:=p;obtain⟨e1,h1,_,_⟩:=sF hn;rw[e1,zab];rintro⟨h2,h3⟩;dsimp only at h2 h3;unfold jg at hn;rw[zac (.inr ⟨by rw[e1];exact h2,by rw[e1];dsimp only;omega⟩)]at hn;cases hn
theorem acW (l:L8) (hT:l9 w):Rk prog 366 [str l] w (.tuple #[I32 (tY l).1,I (tY l).2,.bool (jg l).isSome]):=by
 have H:=Sep.aJ w;refine dI func366 rfl rfl rfl rfl ?_;refine Zb4 ?_;refine aD H (qA (Tryz.utf8_DecodeRuneInString ⟨l.toArray⟩ _ (hT.keep H.kept))) (h:=λ_ k _=>?_);refine Zb8 ?_;refine aF (t:=12) rfl (λS=>?_) (λS=>?_)
 .have hr:=S
  refine Za3 ?_;refine Qn (Cp rfl (λa=>?_) (λa=>?_))
  .have au:=JE l
   rw[zac ⟨oM,oM⟩]at au;have VJ:tY l=(0,0):=by unfold tY;rw[au];rfl
   refine Zb3 ?_;exact⟨by rw[VJ,au];rfl,k.kept⟩
  have au:=JE l;rw[zab (λh=>oM)]at au;refine Zb5 ?_;have au:=JE l;rw[zab oM]at au;have VJ:tY l=Lib.decodeGo ⟨l.toArray⟩:=by unfold tY;rw[au];rfl
  exact⟨by rw[VJ,au];rfl,k.kept⟩
 have hr:=S;refine Zb6 ?_;have au:=JE l;rw[zab oM]at au;have VJ:tY l=Lib.decodeGo ⟨l.toArray⟩:=by unfold tY;rw[au];rfl
 exact⟨by rw[VJ,au];rfl,k.kept⟩
end
theorem amY (c:UInt8):bits .or .u8 (c.toNat:Int) 32=((c||| 32).toNat:Int):=by
 have key: ∀i:Fin 256,bits .or .u8 (i.val:Int) 32=((i.val.toUInt8||| 32).toNat:Int):=by decide+kernel
 have:=key ⟨c.toNat,c.toNat_lt⟩;have e:(c.toNat).toUInt8=c:=sM;simpa only[e]using this
theorem ZW (c:UInt8):mH c=if Lib.indexByte rG (c||| 32)<0\/c.toNat<48\/(57<c.toNat/\c.toNat<65)then none else some (Lib.indexByte rG (c||| 32)).toNat:=by
 have key: ∀i:Fin 256,mH i.val.toUInt8=if Lib.indexByte rG (i.val.toUInt8||| 32)<0\/i.val.toUInt8.toNat<48\/(57<i.val.toUInt8.toNat/\i.val.toUInt8.toNat<65)then none else some (Lib.indexByte rG (i.val.toUInt8||| 32)).toNat:=by decide+kernel
 have:=key ⟨c.toNat,c.toNat_lt⟩;have e:(c.toNat).toUInt8=c:=sM;simpa only[e]using this
section
variable {w:Wd} {l:L8}
theorem Au {b at_:Nat} {e:Int} {F:NP} (hp:(rz b l at_ e).ok F w) (hl:l.length<=1000000) (ha:at_<=l.length):aY prog 372 [av b] w λr w'=>r=I (dR l at_ e).1/\Turn F (rz b l (dR l at_ e).2.1 (dR l at_ e).2.2) w w':=by
 have H:=Sep.bW hp;obtain⟨c,hc⟩: ∃c,c=(dx l at_ e).1:=⟨_,rfl⟩;have Rq:=c.toNat_lt;have yL:=ZW c;refine dI func372 rfl rfl rfl rfl ?_;refine Zb2 ?_;obtain⟨F0,dS,gH,aI⟩:=H.focus At0;refine aK (J7 (l:=l) dS hl ha) rfl rfl (λv' _ hv=>?_);obtain⟨rfl,bZ,F1,hq,hs⟩:=hv;have k:=aI _ F1 _ bZ hq hs;rw[<-hc];refine Zb2 ?_;refine Vv (Gives.orE rfl rfl (amY c)) (eY (xO rG (c||| 32)) (h:=?_));refine Zb4 ?_;refine aF (t:=12) rfl (λS=>?_) (λS=>?_)
 .refine Zb4 ?_
  have au:dR l at_ e=(0,(dx l at_ e).2.1,iU (dx l at_ e).2.2 41):=by
   unfold dR;rw[<-hc,yL,zac oM]
  obtain⟨F0,dS,gH,aI⟩:=k.focus At0;refine aK (nJ (l:=l) 41 dS) rfl rfl (λv' _ hv=>?_);obtain⟨rfl,bZ,F1,hq,hs⟩:=hv;have S:=aI _ F1 _ bZ hq hs;refine Zb1 ?_;exact⟨by rw[au];rfl,by rw[au];exact S.turn⟩
 refine Zb4 ?_;refine aF (t:=16) rfl (λS=>?_) (λS=>?_)
 .refine Zb2 ?_
  have au:dR l at_ e=(0,(dx l at_ e).2.1,iU (dx l at_ e).2.2 41):=by
   unfold dR;rw[<-hc,yL,zac oM]
  obtain⟨F0,dS,gH,aI⟩:=k.focus At0;refine aK (nJ (l:=l) 41 dS) rfl rfl (λv' _ hv=>?_);obtain⟨rfl,bZ,F1,hq,hs⟩:=hv;have S:=aI _ F1 _ bZ hq hs;refine Zb1 ?_;exact⟨by rw[au];rfl,by rw[au];exact S.turn⟩
 refine Zb3 ?_;refine aF (t:=19) rfl (λS=>?_) (λS=>?_)
 .refine Za4 ?_
  refine Qn (Cp rfl (λS=>?_) (λS=>?_))
  .refine Zb1 ?_
   have au:dR l at_ e=(0,(dx l at_ e).2.1,iU (dx l at_ e).2.2 41):=by
    unfold dR;rw[<-hc,yL,zac oM]
   obtain⟨F0,dS,gH,aI⟩:=k.focus At0;refine aK (nJ (l:=l) 41 dS) rfl rfl (λv' _ hv=>?_);obtain⟨rfl,bZ,F1,hq,hs⟩:=hv;have S:=aI _ F1 _ bZ hq hs;refine Zb1 ?_;exact⟨by rw[au];rfl,by rw[au];exact S.turn⟩
  refine Zb2 ?_
  have au:dR l at_ e=((Lib.indexByte rG (c||| 32)).toNat,(dx l at_ e).2.1,(dx l at_ e).2.2):=by
   unfold dR;rw[<-hc,yL,zab oM]
  have hn:(((Lib.indexByte rG (c||| 32)).toNat:Nat):Int)=Lib.indexByte rG (c||| 32):=zde oM;exact⟨by rw[au];show _=I (((Lib.indexByte rG (c||| 32)).toNat:Nat):Int);rw[hn];rfl,by rw[au];exact k.turn⟩
 refine Zb4 ?_
 have au:dR l at_ e=((Lib.indexByte rG (c||| 32)).toNat,(dx l at_ e).2.1,(dx l at_ e).2.2):=by
  unfold dR;rw[<-hc,yL,zab oM]
 have hn:(((Lib.indexByte rG (c||| 32)).toNat:Nat):Int)=Lib.indexByte rG (c||| 32):=zde oM;exact⟨by rw[au];show _=I (((Lib.indexByte rG (c||| 32)).toNat:Nat):Int);rw[hn];rfl,by rw[au];exact k.turn⟩
theorem P6 {a b:Nat} (ha:a<268435456) (hb:b<16):bits .or .i64 ((16*a:Nat):Int) (b:Int)=((16*a+b:Nat):Int):=by
 have key:16*a||| b=16*a+b:=(Nat.two_pow_add_eq_or_of_lt (i:=4) hb a).symm
 show IntKind.i64.wrap ((BitVec.ofInt 64 ((16*a:Nat):Int)||| BitVec.ofInt 64 (b:Int)).toNat:Int)=_
 rw[BitVec.toNat_or,ofInt_u64 _ oM,ofInt_u64 _ oM,key,IntKind.wrap_i64];omega
theorem P7 {a:Nat} (ha:a<268435456):IntKind.i64.wrap ((a:Int)*2^(Min.min (4:Int).toNat IntKind.i64.bits))=((16*a:Nat):Int):=by
 show IntKind.i64.wrap ((a:Int)*16)=_
 rw[IntKind.wrap_i64];omega
theorem RQ {b at_:Nat} {e:Int} {F:NP} (second:Bool) (hp:(rz b l at_ e).ok F w) (hl:l.length<=1000000) (ha:at_<=l.length):aY prog 365 [av b,.bool second] w λr w'=>r=I32 (mU l at_ e second).1/\Turn F (rz b l (mU l at_ e second).2.1 (mU l at_ e second).2.2) w w':=by
 have H:=Sep.bW hp;obtain⟨d0,hd0⟩: ∃d,d=dR l at_ e:=⟨_,rfl⟩;have h0l:=sK l at_ e;have h0a:=qD (e:=e) ha;rw[<-hd0]at h0l h0a;obtain⟨e1,Pp⟩: ∃e1,e1=if second=true/\d0.1≠13 then iU d0.2.2 41 else d0.2.2:=⟨_,rfl⟩
 obtain⟨d1,hd1⟩: ∃d,d=dR l d0.2.1 e1:=⟨_,rfl⟩;have h1l:=sK l d0.2.1 e1;have h1a:=qD (e:=e1) h0a;rw[<-hd1]at h1l h1a;obtain⟨n1,Jz⟩: ∃n,n=16*d0.1+d1.1:=⟨_,rfl⟩;obtain⟨e2,he2⟩: ∃e2,e2=if second≠decide (220<=n1/\n1<=223)then iU d1.2.2 41 else d1.2.2:=⟨_,rfl⟩
 obtain⟨d2,F7⟩: ∃d,d=dR l d1.2.1 e2:=⟨_,rfl⟩;have h2l:=sK l d1.2.1 e2;have h2a:=qD (e:=e2) h1a;rw[<-F7]at h2l h2a;obtain⟨d3,hd3⟩: ∃d,d=dR l d2.2.1 d2.2.2:=⟨_,rfl⟩;have h3l:=sK l d2.2.1 d2.2.2;have h3a:=qD (e:=d2.2.2) h2a;rw[<-hd3]at h3l h3a
 have au:mU l at_ e second=(16*(16*n1+d2.1)+d3.1,d3.2.1,d3.2.2):=by
  rw[hd3,F7,he2,Jz,hd1,Pp,hd0];rfl
 refine dF func365 rfl rfl rfl rfl ?_;refine Zb2 ?_;obtain⟨F0,dS,gH,aI⟩:=H.focus At0;refine aK (Au (l:=l) dS hl ha) rfl rfl (λv' _ hv=>?_);obtain⟨rfl,bZ,F1,hq,hs⟩:=hv;have k:=aI _ F1 _ bZ hq hs;rw[<-hd0];rw[<-hd0]at k;refine Am ?_;refine Qn (fB (λ_:Unit=>[(0,av b),(1,.bool second),(5,I d0.1)]) (λ_ w'=>Sep w F [rz b l d0.2.1 e1] w') ?_ ?_)
 .refine Zb2 ?_
  refine gu (t:=9) rfl (λS=>?_) (λS=>?_)
  .have anF:second=true:=S
   refine Za3 ?_;refine Qn (Cp rfl (λa=>?_) (λa=>?_))
   .have VK:iU d0.2.2 41=e1:=by rw[Pp,zac ⟨anF,λh=>a (by rw[h];rfl)⟩]
    refine Zb1 ?_;obtain⟨F0,dS,gH,aI⟩:=k.focus At0;refine aK (nJ (l:=l) 41 dS) rfl rfl (λv' _ hv=>?_);obtain⟨rfl,bZ,F1,hq,hs⟩:=hv;have c:=aI _ F1 _ bZ hq hs;refine Zb0 ?_;rw[VK]at c;exact aA () tR c
   have VK:d0.2.2=e1:=by rw[Pp,zab (λh=>h.2 (by have h2:=a;omega))]
   refine Zb0 ?_;rw[VK]at k;exact aA () tR k
  have VK:d0.2.2=e1:=by rw[Pp,zab (λh=>by have h2:=S;rw[h.1]at h2;cases h2)]
  refine Zb1 ?_;rw[VK]at k;exact aA () tR k
 intro _ τ c c;simp only[cK,like,aS,bK];refine Zb1 ?_;refine Vv (Gives.acU rfl rfl oM (P7 oM)) (Mv ?_);obtain⟨F0,dS,gH,aI⟩:=c.focus At0;refine aK (Au (l:=l) dS hl h0a) rfl rfl (λv' _ hv=>?_);obtain⟨rfl,bZ,F1,hq,hs⟩:=hv;have c:=aI _ F1 _ bZ hq hs;rw[<-hd1];rw[<-hd1]at c;refine Vv (Gives.orE rfl rfl (P6 oM h1l)) ?_;rw[<-Jz];refine Am ?_;refine Qn (fB (λ_:Unit=>[(0,av b),(1,.bool second),(5,I n1)]) (λ_ w'=>Sep w F [rz b l d1.2.1 e2] w') ?_ ?_)
 .refine Zb4 ?_
  refine aF (t:=23) rfl (λa=>?_) (λa=>?_)
  .have hb:decide (220<=n1/\n1<=223)=decide ((n1:Int)<=223):=zbg.2 (by have h:=a;omega)
   refine Za4 ?_;refine Qn (Cd rfl (λS=>?_) (λS=>?_))
   .have VK:iU d1.2.2 41=e2:=by rw[he2,zac (λh=>by have h2:=S;rw[<-hb,h]at h2;simp at h2)]
    refine Zb1 ?_;obtain⟨F0,dS,gH,aI⟩:=c.focus At0;refine aK (nJ (l:=l) 41 dS) rfl rfl (λv' _ hv=>?_);obtain⟨rfl,bZ,F1,hq,hs⟩:=hv;have k:=aI _ F1 _ bZ hq hs;refine Zb0 ?_;rw[VK]at k;exact aA () tR k
   have VK:d1.2.2=e2:=by rw[he2,zab (λh=>h (by have h2:=S;rw[hb];revert h2;first | (cases second<;>simp;done) | (generalize decide ((n1:Int)<=223)=D;cases second<;>cases D<;>simp)))]
   refine Zb0 ?_;rw[VK]at c;exact aA () tR c
  have hb:decide (220<=n1/\n1<=223)=false:=zas (by have h:=a;omega);refine Za2 ?_;refine Qn (Cd rfl (λk=>?_) (λk=>?_))
  .have VK:iU d1.2.2 41=e2:=by rw[he2,zac (λh=>by have h2:=k;rw[<-hb,h]at h2;simp at h2)]
   refine Zb1 ?_;obtain⟨F0,dS,gH,aI⟩:=c.focus At0;refine aK (nJ (l:=l) 41 dS) rfl rfl (λv' _ hv=>?_);obtain⟨rfl,bZ,F1,hq,hs⟩:=hv;have S:=aI _ F1 _ bZ hq hs;refine Zb0 ?_;rw[VK]at S;exact aA () tR S
  have VK:d1.2.2=e2:=by rw[he2,zab (λh=>h (by have h2:=k;rw[hb];revert h2;first | (cases second<;>simp;done) | (generalize decide ((n1:Int)<=223)=D;cases second<;>cases D<;>simp)))]
  refine Zb0 ?_;rw[VK]at c;exact aA () tR c
 intro _ τ S S;simp only[cK,like,aS];refine Zb1 ?_;refine Vv (Gives.acU rfl rfl oM (P7 oM)) (Mv ?_);obtain⟨F0,dS,gH,aI⟩:=S.focus At0;refine aK (Au (l:=l) dS hl h1a) rfl rfl (λv' _ hv=>?_);obtain⟨rfl,bZ,F1,hq,hs⟩:=hv;have S:=aI _ F1 _ bZ hq hs;rw[<-F7];rw[<-F7]at S;refine Vv (Gives.orE rfl rfl (P6 oM h2l)) (Zb2 ?_);refine Vv (Gives.acU rfl rfl oM (P7 oM)) (Mv ?_);obtain⟨F0,dS,gH,aI⟩:=S.focus At0;refine aK (Au (l:=l) dS hl h2a) rfl rfl (λv' _ hv=>?_);obtain⟨rfl,bZ,F1,hq,hs⟩:=hv;have S:=aI _ F1 _ bZ hq hs;rw[<-hd3];rw[<-hd3]at S;refine Vv (Gives.orE rfl rfl (P6 oM h3l)) (Zb2 ?_);exact⟨by rw[au];rfl,by rw[au];exact S.turn⟩
end
theorem akU {x:Nat} (h:x<256):bits .and .u8 (x:Int) 7=((x%8:Nat):Int):=by
 have key: ∀i:Fin 256,i.val&&& 7=i.val%8:=dC;have:=u8_and_nat x 7 h dC;rw[key ⟨x,h⟩]at this;exact this
section
variable {w:Wd} {l:L8}
theorem agn (l:L8) (hl:l.length<=1000000) (hT:l9 w):aY prog 367 [str l] w λv w'=>(∃b,v=.bool b)/\Kept noB w w':=by
 have H:=Sep.aJ w;refine dI func367 rfl rfl rfl rfl ?_;refine Za6 ?_;refine Qn (Cp rfl (λk=>?_) (λk=>?_))
 .refine Zb1 ?_
  exact⟨⟨_,rfl⟩,H.kept⟩
 refine Zb1 ?_;refine Vv (Gives.yV (i:=0) rfl rfl oM) ?_;have Ew:=(l.getD 0 0).toNat_lt;refine Vv (Gives.Fh (i:=(l.getD 0 0).toNat) rfl rfl oM) ?_;rw[Addr.add_lit];refine ad7 (by rw[zdm,Nat.mul_one];exact(hT.keep H.kept).1 _ Ew) rfl rfl ?_;refine Zb3 ?_;obtain⟨v,hv⟩: ∃v,v=Lib.firstT (l.getD 0 0).toNat:=⟨_,rfl⟩;have Pq:v<256:=by have:=Lib.firstT_cases (l.getD 0 0).toNat;omega
 rw[<-hv];refine Vv (Gives.CJ rfl rfl (akU Pq)) (Vv (Gives.pz (c:=((v%8:Nat):Int)) rfl (by rw[IntKind.wrap_i64];omega)) ?_);refine Za1 ?_;refine Qn (Cp rfl (λk=>?_) (λk=>?_))
 .refine Zb1 ?_
  exact⟨⟨_,rfl⟩,H.kept⟩
 refine Zb1 ?_;refine Vv (Gives.CK (m:=v) (s:=4) rfl rfl dC) ?_;obtain⟨q,hq⟩: ∃q,q=v/2^4:=⟨_,rfl⟩;have lG:q<16:=oM;rw[<-hq];refine Vv (Gives.Fh (i:=q) rfl rfl oM) ?_;rw[Addr.add_lit,zdm]
 refine aaV (us:=[.int .u8 (Lib.accLo q),.int .u8 (Lib.accHi q)]) (λj u hj=>by
  obtain⟨h1,h2⟩:=(hT.keep H.kept).2 q lG;rw[Addr.add_lit]
  match j,hj with
  | 0,hj=>injection hj with hj;subst hj;rw[zff,Nat.mul_comm,zdm];exact h1
  | 1,hj=>injection hj with hj;subst hj;rw[Nat.mul_comm,zdm];exact h2) rfl rfl rfl ?_
 refine aO H (h:=λb27 _ k _=>?_);refine ak k (h:=λ_ _=>?_);refine Zb0 ?_;refine Ds (λk _ S=>?_);refine Zb3 ?_;refine iM (t:=25) rfl (λI=>?_) (λI=>?_)
 .refine Zb1 ?_
  refine Gp k 4 rfl rfl (λ_=>(Gives.yV (i:=1) rfl rfl oM)) (Zb4 ?_);refine iM (t:=31) rfl (λI=>?_) (λI=>?_)
  .refine Zb3 ?_
   exact⟨⟨_,rfl⟩,S.kept⟩
  refine Zb3 ?_;refine Gp k 12 rfl rfl (λ_=>(Gives.yV (i:=1) rfl rfl oM)) (Za3 ?_);refine fF k kR ?_;refine bC (Cp rfl (λI=>?_) (λI=>?_))
  .refine Zb1 ?_
   exact⟨⟨_,rfl⟩,S.kept⟩
  refine Zb3 ?_;refine aF (t:=41) rfl (λI=>?_) (λI=>?_)
  .refine Zb1 ?_
   refine Vv (Gives.yV (i:=2) rfl rfl oM) (Zb2 ?_);refine aF (t:=45) rfl (λI=>?_) (λI=>?_)
   .refine Zb3 ?_
    exact⟨⟨_,rfl⟩,S.kept⟩
   refine Zb1 ?_;refine Vv (Gives.yV (i:=2) rfl rfl oM) (Za3 ?_);refine Qn (Cp rfl (λI=>?_) (λI=>?_))
   .refine Zb1 ?_
    exact⟨⟨_,rfl⟩,S.kept⟩
   refine Zb1 ?_;exact⟨⟨_,rfl⟩,S.kept⟩
  refine Zb2 ?_;exact⟨⟨_,rfl⟩,S.kept⟩
 refine Zb4 ?_;refine aF (t:=41) rfl (λI=>?_) (λI=>?_)
 .refine Zb1 ?_
  refine Vv (Gives.yV (i:=2) rfl rfl oM) (Zb2 ?_);refine aF (t:=45) rfl (λI=>?_) (λI=>?_)
  .refine Zb3 ?_
   exact⟨⟨_,rfl⟩,S.kept⟩
  refine Zb1 ?_;refine Vv (Gives.yV (i:=2) rfl rfl oM) (Za3 ?_);refine Qn (Cp rfl (λI=>?_) (λI=>?_))
  .refine Zb1 ?_
   exact⟨⟨_,rfl⟩,S.kept⟩
  refine Zb1 ?_;exact⟨⟨_,rfl⟩,S.kept⟩
 refine Zb2 ?_;exact⟨⟨_,rfl⟩,S.kept⟩
theorem CO {w w':Wd} {F:NP} {b o:Nat} {v:Value} (hk:Kept F w w') (hF: ¬F b) (h:w.cell? ⟨b,o,none⟩=some v):w'.cell? ⟨b,o,none⟩=some v:=by
 have bH:b<w.heap.size:=by
  refine Classical.byContradiction λhn=>?_;unfold World.cell? at h;rw[zdd dO]at h;cases h
 unfold World.cell? at h ⊢;rw[hk.block b bH hF];exact h
theorem l9.akV {w w':Wd} {F:NP} (h:l9 w) (hk:Kept F w w') (h1: ¬F 4) (h2: ¬F 5):l9 w':=
 ⟨λc hc=>CO hk h1 (h.1 c hc),λi hi=>⟨CO hk h2 (h.2 i hi).1,CO hk h2 (h.2 i hi).2⟩⟩
theorem RS {w w':Wd} {F:NP} {b at_:Nat} {e:Int} {l:L8} (hp:(rz b l at_ e).ok F w) (h:l9 w) (hk:Kept F w w'):l9 w':=by
 have hc:w.cell? ⟨b,0,none⟩=some (str l):=by
  unfold World.cell?;have:=hp.2;simp only[this];rfl
 refine h.akV hk (λhF=>?_) (λhF=>?_)
 .have hb:=(hp.1 _).1 hF
  have h0:=h.1 0 dC;rw[<-hb]at hc;have h1:=hc.symm.trans h0;cases h1
 have hb:=(hp.1 _).1 hF;have h0:=(h.2 0 dC).1;rw[<-hb]at hc;have h1:=hc.symm.trans h0;cases h1
def mF (l:L8) (at_:Nat):L8×Nat×Bool:=
 if(l.getD at_ 0).toNat<32 then([],at_,false)else match jg (l.drop at_)with
  | some (_,n)=>((l.drop at_).take n,at_+n,true)
  | none=>([],at_,false)
theorem ZX {b at_:Nat} {F:NP} (hp:(rz b l at_ 0).ok F w) (hl:l.length<=1000000) (ha:at_<l.length) (hT:l9 w):aY prog 351 [av b] w λr w'=>∃x:Int,r=str (mF l at_).1/\((mF l at_).2.2=true↔x=0)/\Turn F (rz b l (mF l at_).2.1 x) w w':=by
 have H:=Sep.bW hp;unfold rz at H;obtain⟨res,au⟩: ∃res,res=mF l at_:=⟨_,rfl⟩;rw[<-au];unfold mF at au;have hdl:(l.drop at_).length=l.length-at_:=zbq;have hg0:(l.drop at_).getD 0 0=l.getD at_ 0:=by simp[zak]
 refine dI func351 rfl rfl rfl rfl ?_;refine Zb1 ?_;refine Ds (λ_ _ k=>?_);refine Zb8 ?_;refine GS (Gn rfl (λ_=>(Gives.oJ (l:=l) (i:=at_) rfl rfl oM)) ?_);refine Zb2 ?_;refine aD k (acW (l.drop at_) (RS hp hT k.kept)) (h:=λ_ k _=>?_);refine Zb8 ?_;refine Vv (Gives.yV (i:=0) rfl rfl oM) ?_;rw[hg0];refine Za2 ?_;refine Qn (Cp rfl (λS=>?_) (λS=>?_))
 .rw[zac oM]at au
  refine Zb1 ?_;obtain⟨F0,dS,gH,aI⟩:=k.focus At0;refine aK (nJ (l:=l) 41 dS) rfl rfl (λv' _ hv=>?_);obtain⟨rfl,bZ,F1,hq,hs⟩:=hv;have S:=aI _ F1 _ bZ hq hs;refine Zb1 ?_;exact⟨41,by rw[au];rfl,by rw[au];simp,by rw[au];exact S.turn⟩
 rw[zab oM]at au;refine Za2 ?_;refine Qn (Cd rfl (λS=>?_) (λS=>?_))
 .obtain⟨⟨r,n⟩,hn⟩:=zes.1 S
  obtain⟨_,Jz,hn2,_⟩:=sF hn;have hnp:tY (l.drop at_)=(r,n):=by unfold tY;rw[hn];rfl
  rw[hn]at au;rw[hdl]at hn2;rw[hnp];refine Zb5 ?_;refine Vv (Gives.PO (c:=((at_+n:Nat):Int)) rfl rfl (by show(at_:Int)+(n:Int)=_;omega) oM) (Zb2 ?_);refine bB k (h:=λ_ I=>?_);refine Zb2 ?_;refine Vv (Gives.pR (l:=l.drop at_) (i:=n) rfl rfl oM) (Zb1 ?_);exact⟨0,by rw[au];rfl,by rw[au];simp,by rw[au];exact I.turn⟩
 have hn:jg (l.drop at_)=none:=by
  cases h:jg (l.drop at_)with
  | none=>rfl
  | some y=>rw[h]at S;cases S
 rw[hn]at au;refine Zb1 ?_;refine aK (agn (l.drop at_) oM (RS hp hT k.kept)) rfl rfl (λv' _ hv=>?_);obtain⟨⟨bf,rfl⟩,bZ⟩:=hv;have I:=k.keep bZ;refine Za2 ?_;refine Qn (Cd rfl (λk=>?_) (λk=>?_))
 .refine Zb1 ?_
  obtain⟨F0,dS,gH,aI⟩:=I.focus At0;refine aK (nJ (l:=l) 3 dS) rfl rfl (λv' _ hv=>?_);obtain⟨rfl,bZ,F1,hq,hs⟩:=hv;have k:=aI _ F1 _ bZ hq hs;refine Zb1 ?_;exact⟨3,by rw[au];rfl,by rw[au];simp,by rw[au];exact k.turn⟩
 refine Zb1 ?_;obtain⟨F0,dS,gH,aI⟩:=I.focus At0;refine aK (nJ (l:=l) 40 dS) rfl rfl (λv' _ hv=>?_);obtain⟨rfl,bZ,F1,hq,hs⟩:=hv;have k:=aI _ F1 _ bZ hq hs;refine Zb1 ?_;exact⟨40,by rw[au];rfl,by rw[au];simp,by rw[au];exact k.turn⟩
end
end Go.Proofs.YtkfpleidaoaonaaGreatDoor
namespace Go.Mw
open Go.RowKit
section
variable {P:Program} {r:Option Nat} {n:Nat} {ops:AO} {Q:Post} {rest:LO} {σ:St} {w w0:Wd} {S:NP} {rs:List HP} {put:HP->List HP} {ty:Td} {pos:String} {after:Array Edge}
theorem ZY {d:Nat} {x:Od} {T k e:Td} [ht:IsMap P T k e] {bm:Nat} {es:Array MapEntry} {clock:Nat} (H:Sep w0 S rs w) (hb:w.heap[bm]? =some (.map es clock)) (hx:evF σ x=.map (some bm):=by exact rfl) (hd:Nat.blt d n=true:=by exact rfl)
    (h: ∀b w',Sep w0 S (obj b (.mapIter (some bm) clock #[] clock)::rs) w'->FL P r n ops Q rest (upd σ d (.pointer (some ⟨b,0,none⟩))) w'):FL P r n ops Q (⟨some d,.range T x,ty,pos,after,none⟩::rest) σ w:=
  dG (λ_ _ _ _=>by
    have:=run_range_map (P:=P) w T k e bm es clock ht.und hb;simp only[execOp,hx,zbh,this,zai,zbm]) hd (h _ _ (H.alloc _))
theorem acX {d:Nat} {x:Od} {b bm since c0:Nat} {seen:Array Nat} {es:Array MapEntry} {clock:Nat} (H:Sep w0 S rs w) (hat:At rs (obj b (.mapIter (some bm) since seen c0)) put) (hb:w.heap[bm]? =some (.map es clock)) (hold: ∀x∈es.toList,x.born<since) (hsc:since<=c0)
    (h1: ∀en,en∈(leftOf es seen).toList->∀w',Sep w0 S (put (obj b (.mapIter (some bm) since (seen.push en.born) clock))) w'->FL P r n ops Q rest (upd σ d (.tuple #[.bool true,en.key,en.val])) w')
    (h2:(leftOf es seen).size=0->FL P r n ops Q rest (upd σ d (.tuple #[.bool false])) w) (hx:evF σ x=.pointer (some ⟨b,0,none⟩):=by exact rfl) (hd:Nat.blt d n=true:=by exact rfl):
    FL P r n ops Q (⟨some d,.next x false,ty,pos,after,none⟩::rest) σ w:=by
  have hr:=H.obj hat
  rcases run_next_at (P:=P) w ty b bm since c0 seen es clock hr hb hold hsc with⟨h0,iw⟩ | ⟨en,Dn,k,Ai,iw⟩
  . exact dG (λ_ _ _ _=>by simp only[execOp,hx,zbh,iw,zai,zbm]) hd (h2 h0)
  have lY:Kept noB w k:=by
    rcases Ai with rfl | rfl
    . exact Kept.refl _ _
    exact Kept.drew w
  have I:=H.keep lY;have bH:=jB (I.obj hat);refine dG (w':=Go.ChangeMaps.setBlock k b (.mapIter (some bm) since (seen.push en.born) clock)) (λ_ _ _ _=>by simp only[execOp,hx,zbh,iw,zai,zbm]) hd (h1 en Dn _ (I.setObj hat ⟨rfl,rfl,rfl,by simp[Go.ChangeMaps.setBlock],λj hj iC=>?_⟩ (by simp[Go.ChangeMaps.setBlock,bH])));simp only[Go.ChangeMaps.setBlock,zbt];rw[zab (λe=>iC e.symm)]
theorem Gives.aiY {ρ:Od->Value} {x:Od} {b bm since:Nat} {seen:Array Nat} {es:Array MapEntry} {clock:Nat} {en:MapEntry} (hx:ρ x=.pointer (some ⟨b,0,none⟩))
    (hr:w.heap[b]? =some (.mapIter (some bm) since (seen.push en.born) clock)) (hb:w.heap[bm]? =some (.map es clock)) (he:en∈es.toList) (hn:(es.toList.map (·.born)).Nodup):Gives P ρ (.entry x) ty w (.tuple #[en.key,en.val]) w:=λ_ _ _ _=>by
  have:=run_entry_at (P:=P) w b bm since seen es clock en hr hb he hn;simp only[execOp,hx,zbh,this,zai,zbm]
end
end Go.Mw
namespace Go.Proofs.YtkfpleidaoaonaaGreatDoor
open Go Go.Mw Go.Lib
set_option maxRecDepth 4000
attribute [local irreducible] FW FL FG FGn fZ gG cO gW Qfn Gives
def Gf (c:UInt8):Option UInt8:=if c=34 then some 34 else if c=92 then some 92 else if c=98 then some 8 else if c=102 then some 12 else if c=110 then some 10 else if c=114 then some 13 else if c=116 then some 9 else none
theorem RU: ∀x∈gX.toList,x.born<7:=by
 intro x hx;simp only[gX,zan,zao,or_false]at hx
 rcases hx with rfl | rfl | rfl | rfl | rfl | rfl | rfl<;>exact dC
theorem Dx:(gX.toList.map (·.born)).Nodup:=by
 show [0,1,2,3,4,5,6].Nodup
 decide
theorem Wq {x:MapEntry} (hx:x∈gX.toList): ∃k v:UInt8,x.key=.int .i32 (k.toNat:Int)/\x.val=B v/\k.toNat<128/\∀c:UInt8,c=v->Gf c=some k:=by
 simp only[gX,zan,zao,or_false]at hx
 rcases hx with rfl | rfl | rfl | rfl | rfl | rfl | rfl
 .exact⟨34,34,rfl,rfl,dC,λc h=>by subst h;rfl⟩
 .exact⟨92,92,rfl,rfl,dC,λc h=>by subst h;rfl⟩
 .exact⟨8,98,rfl,rfl,dC,λc h=>by subst h;rfl⟩
 .exact⟨12,102,rfl,rfl,dC,λc h=>by subst h;rfl⟩
 .exact⟨10,110,rfl,rfl,dC,λc h=>by subst h;rfl⟩
 .exact⟨13,114,rfl,rfl,dC,λc h=>by subst h;rfl⟩
 exact⟨9,116,rfl,rfl,dC,λc h=>by subst h;rfl⟩
theorem Z0 {c:UInt8} (h: ∀x∈gX.toList,x.val≠B c):Gf c=none:=by
 have g: ∀(k:Int) (v:UInt8) (b:Nat),xL k (v.toNat:Int) b∈gX.toList->c≠v:=λk v b hm e=>h _ hm (by rw[e];rfl);unfold Gf;rw[zab (g 34 34 0 (by simp[gX])),zab (g 92 92 1 (by simp[gX])),zab (g 8 98 2 (by simp[gX])),zab (g 12 102 3 (by simp[gX])),zab (g 10 110 4 (by simp[gX])),zab (g 13 114 5 (by simp[gX])),zab (g 9 116 6 (by simp[gX]))]
theorem akW {a b:UInt8} (h:B a=B b):a=b:=by
 injection h with _ h
 exact UInt8.toNat_inj.1 oM
def Z4 (l:L8) (n:Nat) (g:Nat×Nat×Int):L8×Nat×Int:=(if g.2.2≠0 then []else Ju (65536+1024*((n:Int)-55296)+g.1-56320),g.2.1,g.2.2)
def RV (l:L8) (n:Nat) (a:Nat×Int):L8×Nat×Int:=Z4 l n (mU l (jE l a.1 a.2 117).1 (jE l a.1 a.2 117).2 true)
def Ws (l:L8) (h:Nat×Nat×Int):L8×Nat×Int:=
 if 55296<=h.1/\h.1<56320 then RV l h.1 (jE l h.2.1 h.2.2 92)else(if h.2.2≠0 then []else Ju (h.1:Int),h.2.1,h.2.2)
def Nn (l:L8) (t:UInt8×Nat×Int):L8×Nat×Int:=
 if t.1=47 then([47],t.2.1,t.2.2)
 else match Gf t.1 with
  | some k=>([k],t.2.1,t.2.2)
  | none=>Ws l (mU l t.2.1 (if t.1=117 then t.2.2 else iU t.2.2 41) false)
def yQ (l:L8) (at_:Nat) (e:Int):L8×Nat×Int:=Nn l (dx l at_ e)
theorem YO (l:L8) (at_:Nat) (e:Int) (s:Bool):(mU l at_ e s).1<65536:=by
 have h0:=sK l at_ e;have h1:=sK l (dR l at_ e).2.1 (if s=true/\(dR l at_ e).1≠13 then iU (dR l at_ e).2.2 41 else(dR l at_ e).2.2);unfold mU;dsimp only;have h2: ∀a b,(dR l a b).1<16:=λa b=>sK l a b
 generalize hg:dR l at_ e=d0 at *
 have a1:=h2 d0.2.1 (if s=true/\d0.1≠13 then iU d0.2.2 41 else d0.2.2)
 generalize dR l d0.2.1 (if s=true/\d0.1≠13 then iU d0.2.2 41 else d0.2.2)=d1 at *
 have a2:=h2 d1.2.1 (if s≠decide (220<=16*d0.1+d1.1/\16*d0.1+d1.1<=223)then iU d1.2.2 41 else d1.2.2)
 generalize dR l d1.2.1 (if s≠decide (220<=16*d0.1+d1.1/\16*d0.1+d1.1<=223)then iU d1.2.2 41 else d1.2.2)=d2 at *
 have a3:=h2 d2.2.1 d2.2.2
 generalize dR l d2.2.1 d2.2.2=d3 at *
 omega
section
variable {w:Wd} {l:L8}
theorem Wt {b at_:Nat} {e:Int} {F:NP} (hp:(rz b l at_ e).ok F w) (hl:l.length<=1000000) (ha:at_<=l.length):aY Tryz.prog 350 [av b] w λr w'=>r=str (yQ l at_ e).1/\Turn F (rz b l (yQ l at_ e).2.1 (yQ l at_ e).2.2) w w':=by
 have H:=Sep.bW hp;obtain⟨res,au⟩: ∃res,res=yQ l at_ e:=⟨_,rfl⟩;rw[<-au];unfold yQ Nn Ws RV Z4 at au;have hta:=take_at (e:=e) ha;obtain⟨t,ht⟩: ∃t,t=dx l at_ e:=⟨_,rfl⟩;rw[<-ht]at hta au;have Ml:=t.1.toNat_lt;refine dI Tryz.func350 rfl rfl rfl rfl ?_;refine Zb2 ?_;obtain⟨F0,dS,gH,aI⟩:=H.focus At0;refine aK (J7 (l:=l) dS hl ha) rfl rfl (λv' _ hv=>?_);obtain⟨rfl,bZ,F1,hq,hs⟩:=hv;have S:=aI _ F1 _ bZ hq hs;rw[<-ht];rw[<-ht]at S;refine Za3 ?_;refine Qn (Cp rfl (λI=>?_) (λI=>?_))
 .have h47:t.1=47:=UInt8.toNat_inj.1 (by have h:=I;show t.1.toNat=47;omega)
  rw[zac h47]at au;refine Zb1 ?_;exact⟨by rw[au];rfl,by rw[au];exact S.turn⟩
 rw[zab (λh=>by rw[h]at I;exact I rfl)]at au;refine Zb0 ?_;refine aK (RI) rfl rfl (λv' _ hv=>?_);obtain⟨m,rfl,_,bZ,F1,pF,gT⟩:=hv;have I:=S.new bZ pF (λb hb=>(gT b hb).resolve_left id);refine ZY I (I.obj At0) (h:=λk _ I=>?_);refine Zb0 ?_;refine aR (λ_:Array Nat×Nat=>[(0,av b),(3,B t.1),(12,.pointer (some ⟨k,0,none⟩))]) (λx w'=>(7<=x.2/\∀y∈gX.toList,x.1.contains y.born=true->y.val≠B t.1)/\Sep w F [obj k (.mapIter (some m) 7 x.1 x.2),obj m (.map gX 7),rz b l t.2.1 t.2.2] w') (λx _=>(leftOf gX x.1).size) (#[],7) tR ⟨⟨zbk _,λy _ hy=>by simp at hy⟩,I⟩ (λx τ _ hI=>?_);obtain⟨seen,c0⟩:=x;obtain⟨⟨I,afG⟩,S⟩:=hI;dsimp only at I afG S
 try simp only[cK,like,aS,bK]
 refine Sr (acX S At0 (S.obj At1) RU I (h1:=λen ahJ _ I=>?_) (h2:=λahJ=>?_))
 .obtain⟨qZ,hns⟩:=mem_left ahJ
  obtain⟨kk,vv,mQ,hva,apI,hbk⟩:=Wq qZ;have anH:=left_shrinks gX seen en ahJ;refine Zb1 ?_;refine Vv (Gives.aiY rfl (I.obj At0) (I.obj At1) qZ Dx) ?_;rw[mQ,hva];refine Za7 ?_;refine Qn (Cp rfl (λf=>?_) (λf=>?_))
  .have hvt:vv=t.1:=UInt8.toNat_inj.1 (by have h:=f;omega)
   rw[hbk t.1 hvt.symm]at au;dsimp only at au;refine Zb1 ?_;refine Vv (Gives.aeZ rfl) ?_;rw[PX kk.toNat oM oM,show encodeRune (kk.toNat:Int)=[kk]from by unfold encodeRune;rw[encodeRuneZ_one oM oM];simp];refine Zb1 ?_;exact⟨by rw[au];rfl,by rw[au];exact(I.aU).firsts (l:=[_]).turn⟩
  have hvt:vv≠t.1:=λh=>f (by rw[h]);refine Zb0 ?_;exact aj (seen.push en.born,7) tR ⟨⟨zbk _,λy hy hyc=>by
  rw[contains_push]at hyc;cases hsy:seen.contains y.born with
  | true=>exact afG y hy hsy
  | false=>
   rw[hsy,Bool.false_or,beq_iff_eq]at hyc;have:=born_inj Dx hy qZ hyc;rw[this,hva];exact λh=>hvt (akW h)⟩,I⟩ anH
 have jN:=all_seen gX seen ahJ;have hbn:=Z0 (λx hx=>afG x hx (jN x hx));rw[hbn]at au;dsimp only at au;obtain⟨e1,Pp⟩: ∃e1,e1=if t.1=117 then t.2.2 else iU t.2.2 41:=⟨_,rfl⟩
 rw[<-Pp]at au;have hhl:=YO l t.2.1 e1 false;have hha:=P5 (e:=e1) (s:=false) hta;obtain⟨h,hh⟩: ∃h,h=mU l t.2.1 e1 false:=⟨_,rfl⟩;rw[<-hh]at au hhl hha;refine Vx ?_;refine Qn (dW (BO rfl ?_));refine JC (vD (yZ (Al (bC (fB (λ_:Unit=>[(0,av b)]) (λ_ w'=>Sep w F [rz b l t.2.1 e1] w') ?_ ?_)))))
 .refine Za2 ?_
  refine Qn (Cp rfl (λf=>?_) (λf=>?_))
  .have VK:iU t.2.2 41=e1:=by rw[Pp,zab (λh=>f (by rw[h];rfl))]
   refine Zb1 ?_;obtain⟨F0,dS,gH,aI⟩:=S.focus At2;refine aK (nJ (l:=l) 41 dS) rfl rfl (λv' _ hv=>?_);obtain⟨rfl,bZ,F1,hq,hs⟩:=hv;have I:=aI _ F1 _ bZ hq hs;refine Zb0 ?_;rw[VK]at I;exact aA () tR ((I.aU).firsts (l:=[_]))
  have VK:t.2.2=e1:=by rw[Pp,zac (UInt8.toNat_inj.1 (by have h:=f;show t.1.toNat=117;omega))]
  refine Zb0 ?_;rw[VK]at S;exact aA () tR ((S.aU).firsts (l:=[_]))
 intro _ τ I I;simp only[cK,like,aS];refine Zb1 ?_;obtain⟨F0,dS,gH,aI⟩:=I.focus At0;refine aK (RQ (l:=l) false dS hl hta) rfl rfl (λv' _ hv=>?_);obtain⟨rfl,bZ,F1,hq,hs⟩:=hv;have I:=aI _ F1 _ bZ hq hs;rw[<-hh];rw[<-hh]at I;refine Am ?_;refine Qn (fB (λz:Int×Nat×Int=>[(0,av b),(6,I32 z.1)]) (λz w'=>res=(if z.2.2≠0 then []else Ju z.1,z.2.1,z.2.2)/\Sep w F [rz b l z.2.1 z.2.2] w') ?_ ?_)
 .refine Zb3 ?_
  refine aF (t:=31) rfl (λf=>?_) (λf=>?_)
  .have hge:=f
   refine Za3 ?_;refine Qn (Cp rfl (λS=>?_) (λS=>?_))
   .have F8:55296<=h.1/\h.1<56320:=by have h2:=S;omega
    rw[zac F8]at au;have hwa:=Dw (c:=92) (e:=h.2.2) hha;obtain⟨a,haa⟩: ∃a,a=jE l h.2.1 h.2.2 92:=⟨_,rfl⟩;rw[<-haa]at au hwa;have hwb:=Dw (c:=117) (e:=a.2) hwa;obtain⟨d,hdd⟩: ∃d,d=jE l a.1 a.2 117:=⟨_,rfl⟩;rw[<-hdd]at au hwb;have Rt:=YO l d.1 d.2 true;obtain⟨g,hgg⟩: ∃g,g=mU l d.1 d.2 true:=⟨_,rfl⟩;rw[<-hgg]at au Rt;refine Zb1 ?_;obtain⟨F0,dS,gH,aI⟩:=I.focus At0;refine aK (J8 (l:=l) 92 dS hl hha) rfl rfl (λv' _ hv=>?_);obtain⟨rfl,bZ,F1,hq,hs⟩:=hv;have i:=aI _ F1 _ bZ hq hs;rw[<-haa]at i;refine Zb1 ?_;obtain⟨F0,dS,gH,aI⟩:=i.focus At0;refine aK (J8 (l:=l) 117 dS hl hwa) rfl rfl (λv' _ hv=>?_);obtain⟨rfl,bZ,F1,hq,hs⟩:=hv;have i:=aI _ F1 _ bZ hq hs;rw[<-hdd]at i;refine Zb1 ?_;refine Vv (Gives.ajB (c:=(h.1:Int)-55296) rfl rfl (by rw[IntKind.wrap_i32];omega)) ?_;refine Vv (Gives.acU (c:=1024*((h.1:Int)-55296)) rfl rfl oM (by show IntKind.i32.wrap (((h.1:Int)-55296)*1024)=_;rw[IntKind.wrap_i32];omega)) (Vv (Gives.afi (c:=65536+1024*((h.1:Int)-55296)) rfl rfl (by rw[IntKind.wrap_i32];omega)) ?_);refine Mv ?_;obtain⟨F0,dS,gH,aI⟩:=i.focus At0;refine aK (RQ (l:=l) true dS hl hwb) rfl rfl (λv' _ hv=>?_);obtain⟨rfl,bZ,F1,hq,hs⟩:=hv;have i:=aI _ F1 _ bZ hq hs;rw[<-hgg];rw[<-hgg]at i;refine Vv (Gives.afi (c:=65536+1024*((h.1:Int)-55296)+g.1) rfl rfl (by rw[IntKind.wrap_i32];omega)) ?_;refine Vv (Gives.ajB (c:=65536+1024*((h.1:Int)-55296)+g.1-56320) rfl rfl (by rw[IntKind.wrap_i32];omega)) ?_
    refine Zb1 ?_;exact aA (65536+1024*((h.1:Int)-55296)+g.1-56320,g.2.1,g.2.2) tR ⟨au,i⟩
   have nI: ¬(55296<=h.1/\h.1<56320):=by have h2:=S;omega
   rw[zab nI]at au;refine Zb0 ?_;exact aA ((h.1:Int),h.2.1,h.2.2) tR ⟨au,I⟩
  have nI: ¬(55296<=h.1/\h.1<56320):=by have h2:=f;omega
  rw[zab nI]at au;refine Zb1 ?_;exact aA ((h.1:Int),h.2.1,h.2.2) tR ⟨au,I⟩
 rintro⟨n2,a2,e2⟩ τ i ⟨Rp,i⟩;dsimp only at Rp i;simp only[cK,like,aS];refine Za5 ?_;refine Qn (Cp rfl (λS=>?_) (λS=>?_))
 .rw[zac S]at Rp
  refine Zb1 ?_;exact⟨by rw[Rp];rfl,by rw[Rp];exact i.turn⟩
 rw[zab S]at Rp;refine Zb3 ?_;exact⟨by rw[Rp];rfl,by rw[Rp];exact i.turn⟩
end
end Go.Proofs.YtkfpleidaoaonaaGreatDoor
namespace Go.Mw
open Go.RowKit
section
variable {P:Program} {r:Option Nat} {n:Nat} {ops:AO} {Q:Post} {rest:LO} {σ:St} {w w0:Wd} {S:NP} {rs:List HP} {put:HP->List HP} {ty:Td} {pos:String} {after:Array Edge}
theorem RX {d:Nat} {x y:Od} {t u e:Td} [hs:dh P t e] [hu:j3 P u] [hc:Cells P e 1 1] [hz:Zero P e (.int .u8 0)]
    (H:Sep w0 S rs w) (hat:At rs (lF e (.slice none 0 0) []) put) (hx:evF σ x=.slice none 0 0:=by exact rfl) (hy:evF σ y=str []:=by exact rfl) (hd:Nat.blt d n=true:=by exact rfl)
    (h: ∀w',Sep w0 S (put (lF e (.slice none 0 0) [])) w'->FL P r n ops Q rest (upd σ d (.slice none 0 0)) w'):
    FL P r n ops Q (⟨some d,.call {callee:=.builtin .append,args:= #[x,y],argTypes:= #[t,u]},ty,pos,after,none⟩::rest) σ w:=by
  obtain⟨F,hp,_,_⟩:=H.focus hat;obtain⟨i,hi,p9⟩:=zav.1 hc.size;simp only[Prod.mk.injEq]at p9
  have uf:i.zero=some (.int .u8 0):=by
    have:=hz.run w;simp[zeroValue,typeInfo,hi]at this;cases hq:i.zero with
    | none=>simp[hq]at this
    | some u=>simp[hq]at this;rw[this]
  obtain⟨v',w',iw,h1,h2,h3⟩:=Lib.run_append_own_string (P:=P) w 0 t u ty e i hs.und hu.und hi uf p9.1 p9.2 (.slice none 0 0) 0 [] hp.1 ⟨#[]⟩ dC dC (zaq _);have hv:=h3.2 ⟨rfl,rfl⟩;subst hv;refine dG (v:=.slice none 0 0) (w':=w') (λ_ _ _ _=>?_) hd (h w' (H.D7 hat h2 h1 (.inl rfl)));have hrun':(Builtin.append_ #[t,u] ty #[.slice none 0 0,.string ⟨#[]⟩]).run P w=.ok (.slice none 0 0) w':=iw;simp only[execOp,resolve,invoke,builtin,zbh,zbm,zai,zcg,zay,zcm,hx,hy,str,hrun']
end
end Go.Mw
namespace Go.Proofs.YtkfpleidaoaonaaGreatDoor
open Go Go.Mw Go.Lib
set_option maxRecDepth 4000
attribute [local irreducible] FW FL FG FGn fZ gG cO gW Qfn Gives
section
variable {w:Wd} {l:L8}
theorem Jm {b:Nat} {l news:L8} {F:NP} (iC:l++news≠[]) (hp:(um b l).ok F w) (hl:l.length+news.length<=100000000):aY Tryz.prog 181 [av b,str news] w λr w'=>r=.tuple #[I news.length,.nilIface]/\Turn F (um b (l++news)) w w':=by
 obtain⟨a,v,ha,H⟩:=Sep.Mh (Sep.bW hp);refine dF Tryz.func181 rfl rfl rfl rfl ?_;refine Zb3 ?_;obtain⟨F0,dS,gH,aI⟩:=H.focus At0;refine aK (Ah ha.1 dS) rfl rfl (λv' _ hv=>?_);obtain⟨rfl,bZ,F1,hq,hs⟩:=hv;have k:=aI _ F1 _ bZ hq hs;refine Zb6 ?_;refine LJ k (news:=news) At1 oM (h:=?_);intro v2 k k;obtain⟨A2,c2,rfl,_⟩:=Sep.uI k At1;refine Zb2 ?_;refine bB k (h:=λ_ k=>?_);refine Zb4 ?_;exact⟨rfl,(Sep.Pn ⟨.inr rfl,λe=>zap e iC⟩ k).turn⟩
theorem Jo {b:Nat} {F:NP} (hp:(um b []).ok F w):aY Tryz.prog 181 [av b,str []] w λr w'=>r=.tuple #[I 0,.nilIface]/\Turn F (um b []) w w':=by
 obtain⟨a,v,ha,H⟩:=Sep.Mh (Sep.bW hp);have hv:=ha.2 rfl;subst hv;refine dF Tryz.func181 rfl rfl rfl rfl ?_;refine Zb3 ?_;obtain⟨F0,dS,gH,aI⟩:=H.focus At0;refine aK (Ah ha.1 dS) rfl rfl (λv' _ hv=>?_);obtain⟨rfl,bZ,F1,hq,hs⟩:=hv;have k:=aI _ F1 _ bZ hq hs;refine Zb6 ?_;refine RX k At1 (h:=λ_ k=>?_);refine Zb2 ?_;refine bB k (h:=λ_ k=>?_);refine Zb4 ?_;exact⟨rfl,(Sep.Pn ⟨.inr rfl,λ_=>rfl⟩ k).turn⟩
theorem rA {b:Nat} {l news:L8} {F:NP} (hp:(um b l).ok F w) (hl:l.length+news.length<=100000000):aY Tryz.prog 181 [av b,str news] w λr w'=>r=.tuple #[I news.length,.nilIface]/\Turn F (um b (l++news)) w w':=by
 by_cases h:l++news=[]
 .obtain⟨rfl,rfl⟩:=List.append_eq_nil_iff.1 h
  exact Jo hp
 exact Jm h hp hl
end
end Go.Proofs.YtkfpleidaoaonaaGreatDoor
