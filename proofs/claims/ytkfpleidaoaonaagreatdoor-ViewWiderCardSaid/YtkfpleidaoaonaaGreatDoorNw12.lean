/-
 The program's reader of literals reads as the document tells:plain laws.
-/
import Derived.Test.YtkfpleidaoaonaaGreatDoorNw1
import Derived.Test.YtkfpleidaoaonaaGreatDoorNw11
import Derived.Test.YtkfpleidaoaonaaGreatDoorNw3
import Derived.Test.YtkfpleidaoaonaaGreatDoorNw4
set_option linter.unusedVariables false
set_option linter.unusedSimpArgs false
namespace Go.Proofs.YtkfpleidaoaonaaGreatDoor
open Go Go.Mw Go.Lib
theorem mV (e:Int):iU e 41≠0:=by
 unfold iU
 split
 .decide
 assumption
theorem J9 {l:L8} {a:Nat} {e:Int} (h:e≠0):dx l a e=(0,a,e):=zac h
theorem uV {l:L8} {a:Nat} {e:Int} (h:e≠0):(dR l a e).2.2≠0:=by
 unfold dR;rw[J9 h];show(iU e 41)≠0
 exact mV e
theorem P8 {e:Int} {p:Prop} [Decidable p] (h:e≠0):(if p then iU e 41 else e)≠0:=by
 split
 .exact mV e
 exact h
theorem akX {l:L8} {a:Nat} {e:Int} {c:UInt8} (h:e≠0):(jE l a e c).2≠0:=by
 unfold jE;rw[J9 h];dsimp only
 split
 .exact h
 exact mV e
theorem acY {l:L8} {a:Nat} {e:Int} {s:Bool} (h:e≠0):(mU l a e s).2.2≠0:=by
 unfold mU;exact uV (uV (P8 (uV (P8 (uV h)))))
theorem Dy {l:L8} {a:Nat} (ha:a<=l.length) (h:l[a]? =none):(dR l a 0).2.2≠0:=by
 have :a=l.length:=by have:=zft.1 h;omega
 unfold dR dx;rw[zab sM,zac this];show iU 3 41≠0
 exact mV 3
theorem vG {l:L8} {a:Nat} {c:UInt8} (h:l[a]? =some c):dx l a 0=(c,a+1,0):=by
 have:=(zaz.1 h).1;unfold dx;rw[zab sM,zab oM,zak,h];rfl
theorem JF {l:L8} {a:Nat} {c:UInt8} (h:l[a]? =some c) (hd:mH c=none):(dR l a 0).2.2≠0:=by
 unfold dR;rw[vG h];dsimp only;rw[hd];exact mV 0
theorem P9 {l:L8} {a d:Nat} {c:UInt8} (h:l[a]? =some c) (hd:mH c=some d):dR l a 0=(d,a+1,0):=by
 unfold dR;rw[vG h];dsimp only;rw[hd]
theorem RY {l:L8} {a:Nat} {s:Bool} (ha:a<=l.length):((qP (l.drop a) s).2=0->mU l a 0 s=((qP (l.drop a) s).1,a+4,0))/\((qP (l.drop a) s).2≠0->(mU l a 0 s).2.2≠0):=by
 unfold qP;simp only[zco,zff];unfold mU;cases h0:l[a]? with
 | none=>exact⟨λh=>zap h (show ¬(3:Int)=0 from dC),λ_=>uV (uV (P8 (uV (P8 (Dy ha h0)))))⟩
 | some c0=>
 have Ru:=(zaz.1 h0).1;dsimp only;cases g0:mH c0 with
 | none=>exact⟨λh=>zap h (show ¬(41:Int)=0 from dC),λ_=>uV (uV (P8 (uV (P8 (JF h0 g0)))))⟩
 | some d0=>
 rw[P9 h0 g0];dsimp only
 by_cases hs:s=true/\d0≠13
 .rw[zac hs,zac hs]
  exact⟨λh=>zap h (show ¬(41:Int)=0 from dC),λ_=>uV (uV (P8 (uV (mV 0))))⟩
 rw[zab hs,zab hs];cases h1:l[a+1]? with
 | none=>exact⟨λh=>zap h (show ¬(3:Int)=0 from dC),λ_=>uV (uV (P8 (Dy oM h1)))⟩
 | some c1=>
 have hl1:=(zaz.1 h1).1;dsimp only;cases g1:mH c1 with
 | none=>exact⟨λh=>zap h (show ¬(41:Int)=0 from dC),λ_=>uV (uV (P8 (JF h1 g1)))⟩
 | some d1=>
 rw[P9 h1 g1];dsimp only
 by_cases H:s≠decide (220<=16*d0+d1/\16*d0+d1<=223)
 .rw[zac H,zac H]
  exact⟨λh=>zap h (show ¬(41:Int)=0 from dC),λ_=>uV (uV (mV 0))⟩
 rw[zab H,zab H];cases h2:l[a+2]? with
 | none=>exact⟨λh=>zap h (show ¬(3:Int)=0 from dC),λ_=>uV (Dy oM h2)⟩
 | some c2=>
 have hl2:=(zaz.1 h2).1;dsimp only;cases g2:mH c2 with
 | none=>exact⟨λh=>zap h (show ¬(41:Int)=0 from dC),λ_=>uV (JF h2 g2)⟩
 | some d2=>
 have e2:dR l (a+1+1) 0=(d2,a+1+1+1,0):=P9 h2 g2;rw[e2];dsimp only;cases h3:l[a+3]? with
 | none=>exact⟨λh=>zap h (show ¬(3:Int)=0 from dC),λ_=>Dy oM h3⟩
 | some c3=>
 dsimp only;cases g3:mH c3 with
 | none=>exact⟨λh=>zap h (show ¬(41:Int)=0 from dC),λ_=>JF h3 g3⟩
 | some d3=>
 have e3:dR l (a+1+1+1) 0=(d3,a+1+1+1+1,0):=P9 h3 g3;rw[e3];exact⟨λ_=>rfl,λh=>zap rfl h⟩
theorem acZ (r:Nat) (v:Utf8.valid (r:Int)=false):(Utf8.encode (r:Int)).data.toList=[239,191,189]:=by
 simp[Utf8.encode,v,Utf8.runeError]
theorem RZ (r:Nat):Ju (r:Int)=encodeRune (r:Int):=by
 by_cases h:r<=1114111/\(r<55296\/57343<r)
 .exact PX r h.1 h.2
 have v:Utf8.valid (r:Int)=false:=by simp[Utf8.valid];omega
 rw[Dv _ _ (acZ r v)];unfold encodeRune;rw[encodeRuneZ_bad oM];rfl
theorem Np {l:L8} {a:Nat} {c:UInt8} (ha:a<=l.length) (h:l[a]? =none):(jE l a 0 c).2≠0:=by
 have :a=l.length:=by have:=zft.1 h;omega
 unfold jE dx;rw[zab sM,zac this];dsimp only
 split
 .decide
 exact mV 3
theorem Ka {l:L8} {a:Nat} {c x:UInt8} (h:l[a]? =some x) (iC:x≠c):(jE l a 0 c).2≠0:=by
 unfold jE;rw[vG h];dsimp only;rw[zab iC];exact mV 0
theorem Qa {l:L8} {a:Nat} {c:UInt8} (h:l[a]? =some c):jE l a 0 c=(a+1,0):=by
 unfold jE;rw[vG h];dsimp only;rw[zac rfl]
theorem Z5 (c:UInt8):LA c=if c=47 then some 47 else Gf c:=by
 unfold LA Gf
 by_cases h1:c=34
 .subst h1;rfl
 by_cases h2:c=92
 .subst h2;rfl
 by_cases h3:c=47
 .subst h3;rfl
 simp only[h1,h2,h3,if_false]
theorem akY:Gf 0=none:=dC
theorem agp {l:L8} {n:Nat} {g:Nat×Nat×Int} (h:g.2.2≠0):(Z4 l n g).2.2≠0:=h
theorem aiZ {l:L8} {n:Nat} {a:Nat×Int} (h:a.2≠0):(RV l n a).2.2≠0:=agp (acY (akX h))
theorem ai0 {l:L8} {h:Nat×Nat×Int} (he:h.2.2≠0):(Ws l h).2.2≠0:=by
 unfold Ws
 split
 .exact aiZ (akX he)
 exact he
attribute [local irreducible] mU jE qP dR iU
theorem ac0 {l:L8} {i r:Nat} (hi:i+6<=l.length) (hr:55296<=r):((X3 (l.drop i) r).2.2=0->RV l r (jE l (i+6) 0 92)=((X3 (l.drop i) r).1,i+(X3 (l.drop i) r).2.1,0))/\((X3 (l.drop i) r).2.2≠0->(RV l r (jE l (i+6) 0 92)).2.2≠0):=by
 have hd8:(l.drop i).drop 8=l.drop (i+8):=by rw[zfs]
 unfold X3;rw[zco,zco,hd8];cases h6:l[i+6]? with
 | none=>exact⟨λh=>zap h (show ¬(3:Int)=0 from dC),λ_=>aiZ (Np hi h6)⟩
 | some c6=>
 have hl6:=(zaz.1 h6).1;dsimp only
 by_cases g6:c6=92
 .subst g6
  rw[zab sM,Qa h6];cases h7:l[i+7]? with
  | none=>exact⟨λh=>zap h (show ¬(3:Int)=0 from dC),λ_=>agp (acY (Np (a:=i+7) oM h7))⟩
  | some c7=>
  have hl7:=(zaz.1 h7).1;dsimp only
  by_cases g7:c7=117
  .subst g7
   rw[zab sM];unfold RV;have e7:jE l (i+6+1) 0 117=(i+8,0):=Qa h7;dsimp only;rw[e7];obtain⟨la,lb⟩:=RY (l:=l) (a:=i+8) (s:=true) oM
   by_cases he:(qP (l.drop (i+8)) true).2≠0
   .rw[zac he]
    exact⟨λh=>zap h he,λ_=>agp (lb he)⟩
   rw[zab he];have hq:=la (zca.1 he);dsimp only;rw[hq];refine⟨λ_=>?_,λh=>(h (by dsimp only)).elim⟩;unfold Z4;dsimp only;rw[zab sM];have e:65536+1024*((r:Int)-55296)+((qP (l.drop (i+8)) true).1:Int)-56320=((65536+1024*(r-55296)+(qP (l.drop (i+8)) true).1-56320:Nat):Int):=oM;rw[e,RZ]
  rw[zac g7];exact⟨λh=>zap h (show ¬(41:Int)=0 from dC),λ_=>agp (acY (Ka (a:=i+7) h7 g7))⟩
 rw[zac g6];exact⟨λh=>zap h (show ¬(41:Int)=0 from dC),λ_=>aiZ (Ka h6 g6)⟩
theorem ac1 {l:L8} {s:Bool} (h:(qP l s).2=0):4<=l.length:=by
 unfold qP at h;cases h0:l[0]? with
 | none=>rw[h0]at h;cases h
 | some c0=>
 cases h3:l[3]? with
 | some c3=>have:=(zaz.1 h3).1;omega
 | none=>
  exfalso;simp only[h0,h3]at h
  repeat' split at h
  all_goals first | cases h | exact zap h dC
theorem agq {l:L8} {i:Nat} (hi:i<l.length):((vg (l.drop i)).2.2=0->yQ l (i+1) 0=((vg (l.drop i)).1,i+(vg (l.drop i)).2.1,0))/\((vg (l.drop i)).2.2≠0->(yQ l (i+1) 0).2.2≠0):=by
 have F7:(l.drop i).drop 2=l.drop (i+2):=by rw[zfs]
 unfold vg yQ;rw[zco,F7];cases h1:l[i+1]? with
 | none=>
  have e1:i+1=l.length:=by have:=zft.1 h1;omega
  have e2:dx l (i+1) 0=(0,i+1,3):=by unfold dx;rw[zab sM,zac e1]
  refine⟨λh=>zap h (show ¬(3:Int)=0 from dC),λ_=>?_⟩;rw[e2];unfold Nn;dsimp only;rw[zab (show ¬(0:UInt8)=47 from dC),akY];exact ai0 (acY (by rw[zab (show ¬(0:UInt8)=117 from dC)];exact mV 3))
 | some c=>
 have hl1:=(zaz.1 h1).1;rw[vG h1];unfold Nn;dsimp only;rw[Z5]
 by_cases h47:c=47
 .rw[zac h47,zac h47]
  subst h47;exact⟨λ_=>by dsimp only,λh=>(h (by dsimp only)).elim⟩
 rw[zab h47,zab h47];cases hb:Gf c with
 | some k=>exact⟨λ_=>by dsimp only,λh=>(h (by dsimp only)).elim⟩
 | none=>
 dsimp only
 by_cases ahK:c=117
 .rw[zab (by simp[ahK]),zac ahK]
  obtain⟨la,lb⟩:=RY (l:=l) (a:=i+2) (s:=false) oM
  by_cases he:(qP (l.drop (i+2)) false).2≠0
  .rw[zac he]
   exact⟨λh=>zap h he,λ_=>ai0 (lb he)⟩
  rw[zab he];have hh:=ac1 (zca.1 he);rw[zbq]at hh;have hq:mU l (i+1+1) 0 false=((qP (l.drop (i+2)) false).1,i+6,0):=la (zca.1 he);rw[hq];unfold Ws;dsimp only
  generalize (qP (l.drop (i+2)) false).1=r at hq
  by_cases hr:r<55296\/56319<r
  .rw[zac hr,zab oM,zab sM,RZ]
   exact⟨λ_=>by dsimp only,λh=>(h (by dsimp only)).elim⟩
  rw[zab hr,zac oM];exact ac0 oM oM
 rw[zac ahK,zab ahK];exact⟨λh=>zap h (show ¬(41:Int)=0 from dC),λ_=>ai0 (acY (mV 0))⟩
end Go.Proofs.YtkfpleidaoaonaaGreatDoor
namespace Go.Proofs.YtkfpleidaoaonaaGreatDoor
open Go Go.Mw Go.Lib
set_option maxRecDepth 4000
attribute [local irreducible] FW FL FG FGn fZ gG cO gW Qfn Gives
theorem ai1:iU 0 3=3:=rfl
theorem Z6 {l:L8}:(Ra l).1=if(jE l 0 0 34).2=0 then(o8 l (jE l 0 0 34).1 []).1 else []:=by
 cases l with
 | nil=>rfl
 | cons c t=>
  by_cases h:c=34
  .subst h
   rw[Qa (l:=34::t) (a:=0) rfl,zac rfl];rfl
  rw[zab (Ka (l:=c::t) (a:=0) rfl h)];show(if c≠34 then(([],0,41):L8×Nat×Int)else qQ (t.length+1) t 1 []).1=[]
  rw[zac h]
theorem Z7 {l:L8} {i:Nat} {out:L8} (h:i<l.length) (hc:l.getD i 0=34):(o8 l i out).1=out:=by
 rw[Dj h hc.symm,zac rfl]
theorem agr {l:L8} {i:Nat} {out:L8} (h:i<l.length) (hc:l.getD i 0=92):((yQ l (i+1) 0).2.2=0->(o8 l i out).1=(o8 l (yQ l (i+1) 0).2.1 (out++(yQ l (i+1) 0).1)).1)/\((yQ l (i+1) 0).2.2≠0->(o8 l i out).1=[]):=by
 obtain⟨ha,hb⟩:=agq h;have hs:=Dj (out:=out) h hc.symm;rw[zab dC,zab dC,zac rfl]at hs
 by_cases he:(vg (l.drop i)).2.2=0
 .have hq:=ha he
  rw[zab (by simp[he])]at hs;rw[hs,hq];exact⟨λ_=>rfl,λh=>zap rfl h⟩
 rw[zac he]at hs;have hq:=hb he;rw[hs];exact⟨λh=>zap h hq,λ_=>rfl⟩
theorem Z8 {l:L8} {i:Nat} {out:L8} (h:i<l.length) (h34:l.getD i 0≠34) (h92:l.getD i 0≠92):((mF l i).2.2=true->(o8 l i out).1=(o8 l (mF l i).2.1 (out++(mF l i).1)).1)/\((mF l i).2.2=false->(o8 l i out).1=[]):=by
 have hs:=Dj (out:=out) h rfl;rw[zab h34]at hs;unfold mF
 by_cases h32:(l.getD i 0).toNat<32
 .rw[zac h32]
  rw[zac (UInt8.lt_iff_toNat_lt.2 h32)]at hs;rw[hs];exact⟨λh=>by(dsimp only at h;cases h),λ_=>rfl⟩
 rw[zab h32];rw[zab (λh=>h32 (UInt8.lt_iff_toNat_lt.1 h)),zab h92]at hs;cases hn:jg (l.drop i)with
 | none=>
  rw[hn]at hs;rw[hs,zab sM];exact⟨λh=>by(dsimp only at h;cases h),λ_=>rfl⟩
 | some p=>
  obtain⟨r,n⟩:=p;have hnp:tY (l.drop i)=(r,n):=by unfold tY;rw[hn];rfl
  rw[hn,hnp,zac sM]at hs;rw[hs];exact⟨λ_=>rfl,λh=>by(dsimp only at h;cases h)⟩
theorem R3 (r:Int):(Ju r).length<=4:=by
 unfold Ju Utf8.encode;dsimp only
 repeat' split
 all_goals simp
attribute [local irreducible] mU jE dR iU dx
theorem Wu {l:L8} {a:Nat} {e:Int} (ha:a<=l.length):(yQ l a e).1.length<=4/\(yQ l a e).2.1<=l.length:=by
 have ht:=take_at (e:=e) ha;unfold yQ Nn
 split
 .exact⟨sM,ht⟩
 split
 .exact⟨sM,ht⟩
 have hh:=P5 (e:=if(dx l a e).1=117 then(dx l a e).2.2 else iU (dx l a e).2.2 41) (s:=false) ht
 generalize mU l (dx l a e).2.1 (if(dx l a e).1=117 then(dx l a e).2.2 else iU (dx l a e).2.2 41) false=h at *
 unfold Ws
 split
 .refine⟨?_,P5 (Dw (Dw hh))⟩
  unfold RV Z4;dsimp only
  split
  .simp
  exact R3 _
 refine⟨?_,hh⟩;dsimp only
 split
 .simp
 exact R3 _
theorem Ke (l:L8) (a:Nat) (e:Int):a<=(dx l a e).2.1:=by
 unfold dx
 split
 .exact zbk _
 split
 .exact zbk _
 dsimp only;omega
theorem Av (l:L8) (a:Nat) (e:Int):a<=(dR l a e).2.1:=by
 unfold dR
 split<;>exact Ke l a e
theorem R4 (l:L8) (a:Nat) (e:Int) (s:Bool):a<=(mU l a e s).2.1:=by
 unfold mU;exact zcl (zcl (zcl (Av l a e) (Av l _ _)) (Av l _ _)) (Av l _ _)
theorem R5 (l:L8) (a:Nat) (e:Int) (c:UInt8):a<=(jE l a e c).1:=by
 unfold jE;exact Ke l a e
theorem ags {l:L8} {a:Nat} {e:Int}:a<=(yQ l a e).2.1:=by
 have ht:=Ke l a e;unfold yQ Nn
 split
 .exact ht
 split
 .exact ht
 have hh:=R4 l (dx l a e).2.1 (if(dx l a e).1=117 then(dx l a e).2.2 else iU (dx l a e).2.2 41) false
 generalize mU l (dx l a e).2.1 (if(dx l a e).1=117 then(dx l a e).2.2 else iU (dx l a e).2.2 41) false=h at *
 unfold Ws
 split
 .unfold RV Z4
  dsimp only;exact zcl (zcl (zcl (zcl ht hh) (R5 l _ _ _)) (R5 l _ _ _)) (R4 l _ _ _)
 exact zcl ht hh
theorem Qb {l:L8} {i:Nat} (hi:i<l.length):(mF l i).1.length<=4*((mF l i).2.1-i)/\i<=(mF l i).2.1/\(mF l i).2.1<=l.length/\((mF l i).2.2=true->i<(mF l i).2.1):=by
 unfold mF
 split
 .exact⟨sM,zbk _,dO,λh=>by cases h⟩
 split
 .rename_i r n hn
  obtain⟨_,h1,h2,_⟩:=sF hn;rw[zbq]at h2;dsimp only;rw[zaj,zbq];exact⟨oM,oM,oM,λ_=>oM⟩
 exact⟨sM,zbk _,dO,λh=>by cases h⟩
section
variable {w:Wd}
theorem R6 (l:L8) (hl:l.length<=1000000) (hT:gQ w):aY Tryz.prog 309 [str l] w λv w'=>(∃n e,v=.tuple #[str (Ra l).1,I n,I e])/\Kept noB w w':=by
 have H:=Sep.aJ w;obtain⟨res,au⟩: ∃res,res=(Ra l).1:=⟨_,rfl⟩;have VL:=au;rw[Z6]at au;have VN:=Dw (l:=l) (at_:=0) (e:=0) (c:=34) (zaq _);rw[<-VL];refine dI Tryz.func309 rfl rfl rfl rfl ?_;refine Zb4 ?_;refine Vb [str l,I 0,I 0] ?_;refine cB H (cs:=[str l,I 0,I 0]) rfl (h:=λb5 _ k _=>?_);refine Zb2 ?_;obtain⟨F0,dS,gH,aI⟩:=k.focus At0;refine aK (J8 (l:=l) (at_:=0) (e:=0) 34 dS hl (zaq _)) rfl rfl (λv' _ hv=>?_);obtain⟨rfl,bZ,F1,hq,hs⟩:=hv;have k:=aI _ F1 _ bZ hq hs;refine Nx (aO k (h:=λb6 _ k _=>?_));replace k:=Sep.ahB k;refine Zb0 ?_;refine aR (λ_:Nat×Int×L8=>[(0,str l),(5,av b5),(6,av b6)]) (λx w'=>(x.1<=l.length/\x.2.2.length<=4*x.1/\res=if x.2.1=0 then(o8 l x.1 x.2.2).1 else [])/\Sep w noB [um b6 x.2.2,rz b5 l x.1 x.2.1] w') (λx _=>if x.2.1=0 then l.length-x.1+1 else 0) ((jE l 0 0 34).1,(jE l 0 0 34).2,[]) tR ⟨⟨VN,sM,au⟩,k⟩ (λx τ _ hI=>?_);obtain⟨i,e,out⟩:=x;obtain⟨⟨hi,hol,fU⟩,k⟩:=hI;dsimp only at hi hol fU k;unfold rz at k
 try simp only[cK,like,aS,bK]
 refine Za5 ?_;refine Qn (Cp rfl (λS=>?_) (λS=>?_))
 .have he0:e=0:=S
  subst he0;rw[zac rfl]at fU;refine Za8 ?_;refine Qn (Cp rfl (λb=>?_) (λb=>?_))
  .have oQ:i=l.length:=oM
   have afI:res=[]:=by rw[fU,O7 oM]
   refine Zb1 ?_;obtain⟨F0,dS,gH,aI⟩:=k.focus At1;refine aK (nJ (l:=l) (e:=0) 3 dS) rfl rfl (λv' _ hv=>?_);obtain⟨rfl,bZ,F1,hq,hs⟩:=hv;have b:=aI _ F1 _ bZ hq hs;rw[ai1]at b;refine Zb0 ?_;exact aj (i,3,out) tR ⟨⟨hi,hol,by rw[afI];rfl⟩,b⟩ (by show 0<(if(0:Int)=0 then _ else _);rw[zac rfl];omega)
  have bH:i<l.length:=oM;refine Za8 ?_;refine Qn (Cp rfl (λb=>?_) (λb=>?_))
  .have d:l.getD i 0=34:=UInt8.toNat_inj.1 (by have h:=b;show(l.getD i 0).toNat=34;omega)
   rw[Z7 bH d]at fU;refine Zb0 ?_;refine Ds (λf _ g=>?_);refine Gm f 1 ?_;refine Zb4 ?_;obtain⟨F0,dS,gH,aI⟩:=g.focus At0;refine rD f 0 [(5,true),(4,false),(3,true),(2,true),(1,true)] rfl kR (Bw dS oM) rfl kR kR (λv' _ hv=>?_);obtain⟨rfl,bZ,F1,hq,hs⟩:=hv;have g:=aI _ F1 _ bZ hq hs;refine⟨sL,?_⟩;refine Gp f 6 rfl rfl (λ_=>Gives.assign rfl) (Zb2 ?_);exact⟨⟨_,_,by rw[fU];rfl⟩,g.kept⟩
  have d:l.getD i 0≠34:=λh=>b (by rw[h];rfl);refine Za8 ?_;refine Qn (Cp rfl (λg=>?_) (λg=>?_))
  .have f:l.getD i 0=92:=UInt8.toNat_inj.1 (by have h:=g;show(l.getD i 0).toNat=92;omega)
   obtain⟨lG,pF⟩:=agr (out:=out) bH f;rw[<-fU]at lG pF;obtain⟨Na,hb2⟩:=Wu (l:=l) (a:=i+1) (e:=0) oM;have ahL:=ags (l:=l) (a:=i+1) (e:=0);obtain⟨q,hq⟩: ∃q,q=yQ l (i+1) 0:=⟨_,rfl⟩;rw[<-hq]at lG pF Na hb2 ahL
   have hif:res=if q.2.2=0 then(o8 l q.2.1 (out++q.1)).1 else []:=by
    split
    .exact lG (by assumption)
    exact pF (by assumption)
   refine Zb4 ?_;refine Vc ((i+1:Nat):Int) ?_;refine Zb2 ?_;refine bB k (h:=λ_ b=>?_);refine Zb1 ?_;obtain⟨F0,dS,gH,aI⟩:=b.focus At1;refine aK (Wt (l:=l) (at_:=i+1) (e:=0) dS hl oM) rfl rfl (λv' _ hv=>?_);obtain⟨rfl,bZ,F1,hq',hs⟩:=hv;have b:=aI _ F1 _ bZ hq' hs;rw[<-hq];rw[<-hq]at b;obtain⟨F0,dS,gH,aI⟩:=b.focus At0;refine aK (rA dS oM) rfl rfl (λv' _ hv=>?_);obtain⟨rfl,bZ,F1,hq',hs⟩:=hv;have b:=aI _ F1 _ bZ hq' hs;refine Zb0 ?_;exact aj (q.2.1,q.2.2,out++q.1) tR ⟨⟨hb2,by dsimp only;rw[zad];omega,hif⟩,b⟩ (by dsimp only;rw[zac rfl];split<;>omega)
  have f:l.getD i 0≠92:=λh=>g (by rw[h];rfl);obtain⟨lG,pF⟩:=Z8 (out:=out) bH d f;rw[<-fU]at lG pF;obtain⟨Na,hb3,hb2,ahL⟩:=Qb bH;obtain⟨q,hq⟩: ∃q,q=mF l i:=⟨_,rfl⟩;rw[<-hq]at lG pF Na hb2 hb3 ahL;refine Zb1 ?_;obtain⟨F0,dS,gH,aI⟩:=k.focus At1;refine aK (ZX (l:=l) (at_:=i) dS hl bH (hT.keep k.kept).utf) rfl rfl (λv' _ hv=>?_);obtain⟨x1,rfl,hx1,bZ,F1,hq',hs⟩:=hv;have b:=aI _ F1 _ bZ hq' hs;rw[<-hq]at hx1;rw[<-hq];rw[<-hq]at b
  have hif:res=if x1=0 then(o8 l q.2.1 (out++q.1)).1 else []:=by
   split
   .exact lG (hx1.2 (by assumption))
   rename_i h0;cases hb:q.2.2 with
   | true=>exact zap (hx1.1 hb) h0
   | false=>exact pF hb
  have hms:(if x1=0 then l.length-q.2.1+1 else 0)<l.length-i+1:=by
   split
   .have:=ahL (hx1.2 (by assumption));omega
   omega
  obtain⟨F0,dS,gH,aI⟩:=b.focus At0;refine aK (rA dS oM) rfl rfl (λv' _ hv=>?_);obtain⟨rfl,bZ,F1,hq',hs⟩:=hv;have b:=aI _ F1 _ bZ hq' hs;refine Zb0 ?_;exact aj (q.2.1,x1,out++q.1) tR ⟨⟨hb2,by dsimp only;rw[zad];omega,hif⟩,b⟩ (by dsimp only;rw[zac rfl];exact hms)
 have afI:res=[]:=by rw[fU,zab S]
 refine Zb0 ?_;refine Ds (λ_ _ b=>?_);refine Zb7 ?_;exact⟨⟨_,_,by rw[afI];rfl⟩,b.kept⟩
end
end Go.Proofs.YtkfpleidaoaonaaGreatDoor
namespace Go.Proofs.YtkfpleidaoaonaaGreatDoor
open Go Go.Mw Go.Lib Go.Proofs.Tryz
set_option maxRecDepth 4000
attribute [local irreducible] FW FL FG FGn fZ gG cO gW Qfn Gives
theorem Wv {w:L8} {k:Int} (hw:w≠[]) (h1:1<=k) (h5:k<=5) (h: ∀j:Int,1<=j->j<k->nD j≠w) (hk:nD k=w):[1,3,4,5].find? (λk:Int=>decide (nD k=w))=some k:=by
 have hd: ∀j:Int,1<=j->j<k->decide (nD j=w)=false:=λj a b=>zas (h j a b);have hk':decide (nD k=w)=true:=zbj hk
 rcases (by omega :k=1\/k=2\/k=3\/k=4\/k=5)with e | e | e | e | e<;>subst e
 .simp only[zcf,hk']
 .exact zap hk.symm hw
 .simp only[zcf,hd 1 oM oM,hk']
 .simp only[zcf,hd 1 oM oM,hd 3 oM oM,hk']
 simp only[zcf,hd 1 oM oM,hd 3 oM oM,hd 4 oM oM,hk']
theorem Ww {w:L8} (h: ∀k:Int,1<=k->k<6->nD k≠w):[1,3,4,5].find? (λk:Int=>decide (nD k=w))=none:=by
 rw[zen];intro k hk;simp only[zan,zao,or_false]at hk;have:=h k oM oM;simpa using this
theorem Z9:[1,3,4,5].find? (λk:Int=>decide (nD k=[]))=none:=dC
theorem Wx (w:L8) (c:UInt8):Lib.hasPrefix w [c]=decide (w.head?=some c):=by
 unfold Lib.hasPrefix;cases w with
 | nil=>rfl
 | cons x t=>
  by_cases h:c=x
  .subst h;simp[List.isPrefixOf]
  have h': ¬x=c:=λe=>h e.symm;simp[List.isPrefixOf,h,h']
theorem agt {p:L8->Bool} {i:Nat} (h:jZ.findIdx? p=some i):jZ[i]? =jZ[i]? /\i<12:=by
 obtain⟨h1,_⟩:=zct.1 h;exact⟨rfl,h1⟩
section
variable {w:Wd}
theorem Gg (l:L8) (hl:l.length<=1000000) (hT:gQ w):aY prog 308 [str l,I 10,I 64] w λv w'=>(∃e,v=.tuple #[I (lX l),e])/\Kept noB w w':=by
 have hs:(⟨l.toArray⟩:ByteArray).size=l.length:=Mw.size_mk l;cases h:Lib.parseIntB 64 l
 .rename_i v
  have hn:lX l=v:=by unfold lX;rw[h]
  rw[hn]
  exact Calls.mono (Tryz.strconv_ParseInt_10_at64_ok ⟨l.toArray⟩ (by rw[hs];omega) v h w) λe w' he=>by
   obtain⟨rfl,hw⟩:=he;refine⟨⟨_,rfl⟩,?_⟩
   rcases hw with rfl | ⟨t,rfl⟩
   .exact Kept.refl _ _
   exact Kept.of_below (Lib.bytesWorld_below _ _ _)
 .skip
  have hn:lX l=0:=by unfold lX;rw[h]
  rw[hn];obtain⟨tp,p,hv⟩:=hT.syn
  exact Calls.mono (Tryz.strconv_ParseInt_10_at64_syntax_var ⟨l.toArray⟩ (by rw[hs];omega) h rfl tp p w hv) λe w' he=>by
   obtain⟨N,rfl,_,_,hb⟩:=he;exact⟨⟨_,rfl⟩,Kept.of_below hb⟩
 skip;have hn:lX l=Lib.intSat 64 l:=by unfold lX;rw[h]
 rw[hn];obtain⟨tp,p,hv⟩:=hT.ran
 exact Calls.mono (Tryz.strconv_ParseInt_10_at64_range_var ⟨l.toArray⟩ (by rw[hs];omega) h tp p w hv) λe w' he=>by
  obtain⟨N,rfl,_,_,hb⟩:=he;exact⟨⟨_,rfl⟩,Kept.of_below hb⟩
theorem xR (l:L8) (c:UInt8):aY prog 307 [str l,str [c]] w λv w'=>v=.bool (decide (l.head?=some c))/\w=w':=
 jQ (by
  have:=Tryz.strings_HasPrefix ⟨l.toArray⟩ ⟨[c].toArray⟩ w;rw[<-Wx];exact this)
theorem aac (s:L8) (hl:s.length<=1000000) (hT:gQ w):Rk prog 229 [str s] w (agg (aP (eB s))):=by
  have H:=Sep.aJ w;obtain⟨res,au⟩: ∃res,res=eB s:=⟨_,rfl⟩;rw[<-au];unfold eB at au;obtain⟨ix,hix⟩: ∃ix,ix=jZ.findIdx? (λx=>decide (x=s)):=⟨_,rfl⟩
  have anQ:jZ.findIdx? (λy=>decide (s=y))=ix:=by
    rw[hix];exact zbb (λp=>jZ.findIdx? p) (funext λy=>zbg.2 eq_comm)
  rw[<-hix]at au;refine tQ func229 rfl rfl rfl rfl ?_;refine Sr (aO H (h:=λb1 _ S _=>?_));refine Zb0 ?_;refine aK (RN) rfl rfl (λv' d hv=>?_);obtain⟨bs,rfl,_,bZ,F1,hq,gT⟩:=hv;have f:=S.new bZ hq (λb hb=>(gT b hb).resolve_left id);have hR:Rd d (some ⟨bs,0,none⟩) fT 1 jZ:=Sep.nA f At0 rfl;have hRI:aQ d (.slice (some ⟨bs,0,none⟩) 12 12) fT 1 jZ:=⟨some ⟨bs,0,none⟩,12,rfl,⟨zbk _,dC⟩,hR⟩;refine Mv ?_;refine aD f (ab4 s hRI) (h:=λ_ f _=>?_);rw[anQ];refine Za3 ?_;refine Qn (Cp rfl (λd=>?_) (λd=>?_))
  . obtain⟨i,hi⟩: ∃i:Nat,ix=some i:=by
      cases ix with
      | some i=>exact⟨i,rfl⟩
      | none=>exact zap d dC
    have anR:BI ix=(i:Int):=by rw[hi];rfl
    rw[hi]at au;dsimp only at au;refine Zb1 ?_;rw[anR];refine Vv (Gives.PO (c:=(7+(i:Int))) rfl rfl rfl (by have:=(agt (hix.symm.trans hi)).2;omega)) (Vb (aP ⟨7+(i:Int),0,[]⟩) ?_);refine ak f (h:=λ_ S=>?_);refine Qn (Rs (aN (h:=?_)));exact⟨_,jh S,by rw[au];rfl,S.kept⟩
  have hi:ix=none:=by
    cases ix with
    | none=>rfl
    | some i=>exact zap (show BI (some i)≥0 from Int.natCast_nonneg i) d
  rw[hi]at au;dsimp only at au;refine Zb1 ?_;refine aR (λk:Nat=>[(0,str s),(2,.pointer (some ⟨b1,0,none⟩)),(4,I k)]) (λk w'=>(1<=k/\k<=6/\∀j:Int,1<=j->j<k->s≠[]->nD j≠s)/\Sep w noB [blk b1 (aP ⟨0,0,[]⟩) 92] w') (λk _=>6-k) 1 tR ⟨⟨zbk _,dC,λj a b=>zap b oM⟩,(f.aL).firsts (l:=[_])⟩ (λk τ _ hI=>?_);obtain⟨⟨lY,hk6,hnb⟩,S⟩:=hI
  try simp only[cK,like,aS,bK]
  refine Za2 ?_;refine Qn (Cp rfl (λd=>?_) (λd=>?_))
  . refine Zb3 ?_
    refine aF (t:=28) rfl (λd=>?_) (λd=>?_)
    . have f:s≠[]:=d
      refine Zb2 ?_;refine aD S (Ro (k:Int)) (h:=λ_ g _=>?_);refine Za2 ?_;refine Qn (Cp rfl (λm=>?_) (λm=>?_))
      . have hfn:[1,3,4,5].find? (λk:Int=>decide (nD k=s))=some (k:Int):=Wv f oM oM (λj a b=>hnb j a b f) (Eq.symm m)
        rw[hfn]at au;dsimp only at au;refine Zb1 ?_;refine Vb (aP ⟨6,(k:Int),[]⟩) ?_;refine ak g (h:=λ_ n=>?_);refine Qn (Rb (lQ (bM (dM (aN (h:=?_))))));exact⟨_,jh n,by rw[au];rfl,n.kept⟩
      have hnk:s≠[]->nD (k:Int)≠s:=λ_ h=>m h.symm;refine Zb1 ?_;refine Vc ((k+1:Nat):Int) ?_;refine Zb1 ?_;exact aj (k+1) tR ⟨⟨oM,oM,λj a b h0=>by
      by_cases e:j=k
      . rw[e];exact hnk h0
      exact hnb j a oM h0⟩,g⟩ oM
    have f:s=[]:=zca.1 d;have hnk:s≠[]->nD (k:Int)≠s:=λh=>zap f h;refine Zb2 ?_;refine Vc ((k+1:Nat):Int) ?_;refine Zb1 ?_;exact aj (k+1) tR ⟨⟨oM,oM,λj a b h0=>by
    by_cases e:j=k
    . rw[e];exact hnk h0
    exact hnb j a oM h0⟩,S⟩ oM
  have hk:k=6:=oM
  have hfn:[1,3,4,5].find? (λk:Int=>decide (nD k=s))=none:=by
    by_cases h0:s=[]
    . rw[h0];exact Z9
    exact Ww λj a b=>hnb j a oM h0
  rw[hfn]at au;dsimp only at au;refine Za3 ?_;refine Qn (Cp rfl (λn=>?_) (λn=>?_))
  . rw[zac (show s=Zm from n)]at au
    refine Sr (Vb (aP ⟨3,1,[]⟩) ?_);refine ak S (h:=λ_ m=>?_);refine Qn (Rb (aN (h:=?_)));exact⟨_,jh m,by rw[au];rfl,m.kept⟩
  rw[zab (show ¬s=Zm from n)]at au;refine Za3 ?_;refine Qn (Cp rfl (λm=>?_) (λm=>?_))
  . rw[zac (show s=Rc from m)]at au
    refine Sr (Vb (aP ⟨3,0,[]⟩) ?_);refine ak S (h:=λ_ n=>?_);refine Qn (Rb (aN (h:=?_)));exact⟨_,jh n,by rw[au];rfl,n.kept⟩
  rw[zab (show ¬s=Rc from m)]at au;refine Zb1 ?_;refine eY (xR s 35) (h:=?_);refine Am ?_;refine Qn (Cp rfl (λn=>?_) (λn=>?_))
  . have hh:s.head?=some 35:=n
    rw[zac hh]at au;refine Zb1 ?_;refine Vv (Gives.oJ (i:=1) rfl rfl (by cases s with | nil=>cases hh | cons a b=>simp)) (aK (Gg (s.drop 1) (by rw[zbq];omega) (hT.keep S.kept)) rfl rfl (λv' _ hv=>?_));obtain⟨⟨er,rfl⟩,bZ⟩:=hv;have m:=S.keep bZ;refine Zb6 ?_;refine Vb (aP ⟨1,lX (s.drop 1),[]⟩) ?_;refine ak m (h:=λ_ m=>?_);refine Qn (Rb (aN (h:=?_)));exact⟨_,jh m,by rw[au];rfl,m.kept⟩
  rw[zab (show ¬s.head?=some 35 from n)]at au;refine Zb1 ?_;refine eY (xR s 34) (h:=?_);refine Am ?_;refine Qn (Cp rfl (λm=>?_) (λm=>?_))
  . rw[zac (show s.head?=some 34 from m)]at au
    refine Zb1 ?_;refine aK (R6 s hl (hT.keep S.kept)) rfl rfl (λv' _ hv=>?_);obtain⟨⟨nn,er,rfl⟩,bZ⟩:=hv;have n:=S.keep bZ;refine Zb8 ?_;refine Vb (aP ⟨4,0,(Ra s).1⟩) ?_;refine ak n (h:=λ_ n=>?_);refine Qn (Rb (aN (h:=?_)));exact⟨_,jh n,by rw[au];rfl,n.kept⟩
  rw[zab (show ¬s.head?=some 34 from m)]at au;refine Zb1 ?_;refine eY (xR s 120) (h:=?_);refine Am ?_;refine Qn (Cp rfl (λn=>?_) (λn=>?_))
  . have hh:s.head?=some 120:=n
    rw[zac hh]at au;refine Sr (Vb (aM gY) ?_);refine Mv ?_;refine aK (Wo s hl hh (hT.keep S.kept).utf) rfl rfl (λv' _ hv=>?_);obtain⟨⟨er,rfl⟩,bZ⟩:=hv;have m:=S.keep bZ;refine Zb3 ?_;refine aO m (h:=λb129 _ m _=>?_);refine ak m (h:=λ_ m=>?_);refine Zb3 ?_;refine Vb (aP ⟨5,0,Em s⟩) ?_;refine ak m (h:=λ_ m=>?_);refine Qn (Rb (aN (h:=?_)));exact⟨_,jh m,by rw[au];rfl,m.kept⟩
  rw[zab (show ¬s.head?=some 120 from n)]at au;refine Zb1 ?_;refine aK (Gg s hl (hT.keep S.kept)) rfl rfl (λv' _ hv=>?_);obtain⟨⟨er,rfl⟩,bZ⟩:=hv;have m:=S.keep bZ;refine Zb6 ?_;refine Vb (aP ⟨2,lX s,[]⟩) ?_;refine ak m (h:=λ_ m=>?_);refine Qn (dX (aN (h:=?_)));exact⟨_,jh m,by rw[au];rfl,m.kept⟩
end
end Go.Proofs.YtkfpleidaoaonaaGreatDoor
namespace Go.Mw
open Go.RowKit
section
variable {P:Program} {r:Option Nat} {n:Nat} {ops:AO} {Q:Post} {rest:LO} {σ:St} {w w0:Wd} {S:NP} {rs:List HP} {put:HP->List HP} {ty:Td} {pos:String} {after:Array Edge}
theorem Nq {α:Type} {g:Od} {p:Tmp} {assign body:Code} {gf:FuncId} {lb:LV} [he:qb P gf] (enc:α->Value) (xs:List α) (J:List α->HP) (L:List α->α->HP) (Fr0:List HP) (H:Sep w0 S (J []::Fr0) w)
    (hg:evF σ g=.func (.func gf) #[] lb.toArray) (hp:Nat.blt p n=true)
    (afJ: ∀(l D:Nat) (ro rb:Obj) (pre:List α) (x:α) (Fr:List HP) (W:Wd),pre++[x]<+:xs->Sep w0 S (obj l ro::obj D (.deferred (some []))::J pre::Fr) W->
      FW P (some l) n assign (JN λτ W'=>∃ex:List HP,Sep w0 S (obj l ro::obj D (.deferred (some []))::(ex++J pre::Fr)) W'/\
        ∀W'',Sep w0 S (obj l rb::obj D (.deferred (some []))::(ex++J pre::Fr)) W''->FW P (some l) n body (X0 (λW3=>Sep w0 S (obj l rb::obj D (.deferred (some []))::J (pre++[x])::Fr) W3) (λW3=>Sep w0 S [obj l rb,obj D (.deferred (some [])),L pre x] W3)) τ W'') (upd ⟨σ.get,[]⟩ p (enc x)) W)
    (afK: ∀(l D:Nat) (ro rj:Obj) (W:Wd),Sep w0 S (obj l ro::obj D (.deferred (some []))::J []::Fr0) W->
      (∀(pre:List α) (x:α) (Fr:List HP) (W:Wd),pre++[x]<+:xs->Sep w0 S (obj l ro::obj D (.deferred (some []))::J pre::Fr) W->Q8 P l [enc x] W λb W'=>if b=true then Sep w0 S (obj l ro::obj D (.deferred (some []))::J (pre++[x])::Fr) W' else Sep w0 S [obj l rj,obj D (.deferred (some [])),L pre x] W')->
      aY P gf (.func (.yield l) #[] #[]::lb) W λ_ W'=>Sep w0 S [obj l ro,obj D (.deferred (some [])),J xs] W'\/∃pre x,pre++[x]<+:xs/\Sep w0 S [obj l rj,obj D (.deferred (some [])),L pre x] W')
    (VO: ∀(D:Nat) (W:Wd),Sep w0 S [obj D (.deferred (some [])),J xs] W->Q .normal ⟨σ.get,{target:=.collected D,args:= #[]}::σ.ds⟩ W)
    (alH: ∀(D:Nat) (W:Wd) (pre:List α) (x:α),pre++[x]<+:xs->Sep w0 S [obj D (.deferred (some [])),L pre x] W->Q .ret ⟨σ.get,{target:=.collected D,args:= #[]}::σ.ds⟩ W):
    FW P none n (.rangeFunc g #[p] assign body) Q σ w:=by
  intro a ha;refine wpIn_rangeFunc λfn hfn=>?_
  let rec_:LoopState->Obj:=λst=>Y6 st fn a.tmps #[p] assign body w.heap.size
  let recj:Obj:=.loop {state:=.done,pending:=some .ret,fn:=fn,tmps:=a.tmps,params:= #[p],assign:=assign,body:=body,defers:=w.heap.size}
  obtain⟨W1,hW1⟩: ∃W1,(w.alloc (.deferred (some []))).alloc (rec_ .ready)=W1:=⟨_,rfl⟩
  have k:Sep w0 S (obj (w.heap.size+1) (rec_ .ready)::obj w.heap.size (.deferred (some []))::J []::Fr0) W1:=by
    have h1:=(H.alloc (.deferred (some []))).alloc (rec_ .ready);rw[World.size_alloc]at h1;rw[<-hW1];exact h1
  refine⟨w.heap.size+1,[{target:=.collected w.heap.size,args:= #[]}],W1,{target:=.fn (.func gf) lb.toArray,args:= #[.func (.yield (w.heap.size+1)) #[] #[]]},W1,gf,
    #[.func (.yield (w.heap.size+1)) #[] #[]]++lb.toArray,W1,?_,?_,λ_ _=>trivial,?_,(λh=>by cases h),?_⟩
  . rw[<-hW1];exact run_enterLoop_outer _ _ _ _ _
  . rw[ha.eval]
    simp only[resolve,hg,Deferred.ofValue];simp[evF]
  . simp[invoke,he.run]
  have ajX:=afK (w.heap.size+1) w.heap.size (rec_ .ready) recj W1 k (λpre x Fr W jm HW=>?_)
  . have e:(#[.func (.yield (w.heap.size+1)) #[] #[]]++lb.toArray:Array Value)=(Value.func (.yield (w.heap.size+1)) #[] #[]::lb).toArray:=sM
    rw[e];refine ql none (Calls.mono ajX λen W3 hr=>?_);cases en with
    | returned v=>
      rcases hr with hr | ⟨pre,x,jm,hr⟩
      . have hl:=Sep.obj hr At0
        refine⟨none,_,run_endLoop hl sM,?_⟩;refine⟨⟨σ.get,{target:=.collected w.heap.size,args:= #[]}::σ.ds⟩,⟨ha.size,?_,ha.get⟩,VO w.heap.size _ ?_⟩
        . show [_]++a.defers=_
          rw[ha.defers];rfl
        exact(Sep.Un hr).dA
      have hl:=Sep.obj hr At0;refine⟨some .ret,_,run_endLoop hl sM,?_⟩;refine wpIn_ret ⟨⟨σ.get,{target:=.collected w.heap.size,args:= #[]}::σ.ds⟩,⟨ha.size,?_,ha.get⟩,alH w.heap.size _ pre x jm ?_⟩
      . show [_]++a.defers=_
        rw[ha.defers];rfl
      exact(Sep.Un hr).dA
    | _=>exact hr.elim

  have hl:=Sep.obj HW At0;refine⟨fn,_,assign,body,run_yield hl sM,?_⟩;refine roundIn_of_wpIn (F:=fen none) trivial ?_;have hb:=afJ (w.heap.size+1) w.heap.size (rec_ .ready) (rec_ .busy) pre x Fr W jm HW
  have ha':Rep n (upd ⟨σ.get,[]⟩ p (enc x)) {tmps:=((#[p].zip [enc x].toArray).foldl (λtmps (t,a)=>tmps.setIfInBounds t a) a.tmps),defers:=[]}:=by
    have h0:Rep n ⟨σ.get,[]⟩ {tmps:=a.tmps,defers:=[]}:=⟨ha.size,rfl,ha.get⟩;have h1:=h0.put (zaw hp) (enc x);simpa[Act.put]using h1
  refine Go.wpIn_mono (hb _ ha') λen a1 W1' ⟨τ,hτ,hq⟩=>?_;cases en with
  | normal=>
    obtain⟨ex,HW1,hB⟩:=hq;have hl1:=Sep.obj HW1 At0;refine⟨_,run_beginRound hl1 rfl,?_⟩;refine Go.wpIn_mono (hB _ (Sep.Un HW1) a1 hτ) λen a2 W2 ⟨τ2,hτ2,pF⟩=>?_;cases en with
    | normal=>
      have hl2:=Sep.obj (show Sep w0 S _ W2 from pF) At0;exact⟨_,_,run_endRound none hl2,true,rfl,by show ite (true=true) _ _;rw[zac rfl];exact Sep.Un pF⟩
    | ret=>
      have hl2:=Sep.obj (show Sep w0 S _ W2 from pF) At0;exact⟨_,_,run_endRound (some .ret) hl2,false,rfl,by show ite (false=true) _ _;rw[zab dC];exact Sep.Un pF⟩
    | _=>exact pF.elim
  | _=>exact hq.elim
/-! Results in cells,behind ranges. -/
theorem rC {fn:Func} {tmps:Array Value} {R:Ending->Wd->Prop}: ∀(ds:List Deferred) (w:Wd),Goes ds w (λw'=>∃v,(results fn tmps).run P w'=.ok v w'/\R (.returned v) w')->LeavesInM (fen none) 0 P fn tmps R ds .returning w
 | [],w,⟨v,hr,h⟩=>⟨v,hr,h⟩
 | d::ds,w,⟨D,ht,hh,hg⟩=>⟨(λe=>by cases e),.inl ⟨D,_,ht,run_takeDeferred hh,rC ds _ hg⟩⟩
theorem goes_mono {R R':Wd->Prop} (h: ∀w,R w->R' w): ∀{ds:List Deferred} {w:Wd},Goes ds w R->Goes ds w R'
 | [],_,hg=>h _ hg
 | _::_,_,⟨D,ht,hh,hg⟩=>⟨D,ht,hh,goes_mono h hg⟩
def ai2 (P:Program) (l:List ResultVar) (R:Value->Wd->Prop):Post:=λe σ w=>match e with
 | .normal | .ret=>Goes σ.ds w λw'=>∃vs,qz P σ w' l vs/\R (eP vs) w'
 | _=>False
theorem Dz {l:List ResultVar} {R:Value->Wd->Prop} (h: ∃vs,qz P σ w l vs/\R (eP vs) w) (hd:σ.ds=[]:=by exact rfl):ai2 P l R .ret σ w:=by
 show Goes σ.ds w _
 rw[hd];exact h
theorem vH {l:List ResultVar} {R:Value->Wd->Prop} {D:Nat} (H:Sep w0 S rs w) (hat:At rs (Mw.obj D (.deferred (some []))) put) (hR: ∀w',Sep w0 S (put (Mw.obj D (.deferred none))) w'->∃vs,qz P σ w' l vs/\R (eP vs) w')
    (hd:σ.ds=[{target:=.collected D,args:= #[]}]:=by exact rfl):ai2 P l R .ret σ w:=by
  show Goes σ.ds w _
  rw[hd];have hD:=H.obj hat;have bH:=jB hD;exact⟨D,rfl,hD,hR _ (H.setObj hat ⟨rfl,rfl,rfl,sM,λk _ hS=>by simp only;rw[zeq (λe=>hS e.symm)]⟩ (by simp[bH]))⟩
theorem ac2 {f:FuncId} {fn:Func} {c:Code} {R:Value->Wd->Prop} {n:Nat} {l:List ResultVar} {a0:Value}
    (hf:P.funcs[f]? =some fn) (hb:fn.body=some c) (hn:fn.ntmps=n) (hl:fn.results=l.toArray) (hk:Nat.ble 1 n=true)
    (h:FW P none n c (ai2 P l R) (upd und 0 a0) w):aY P f [a0] w R:=by
  have q9:1<=n:=zaw hk;refine(callsIn_wide (n:=0)).1 (callsIn_of_wp_marks (F:=fen none) hf hb trivial (Go.wpIn_mono (h _ ⟨?_,rfl,λi=>?_⟩) ?_))
  . simp[hn];omega
  . have e:upd und 0 a0=y5 0 [a0]:=rfl
    rw[e,vF];simp only[zaq,if_true,zfg];simp only[zbl,zdy];rw[zfh]
    split
    . simp
    rename_i hge;simp at hge;rw[zcn (by simp;omega)];rw[zdz]
    split<;>rfl
  rintro e a' w' ⟨s,hs,hq⟩;cases e with
  | normal=>
    show LeavesInM _ _ _ _ _ _ _ _ _
    rw[hs.defers];exact rC _ _ (goes_mono (λH ⟨vs,h1,h2⟩=>⟨_,rY hs.get hl h1,h2⟩) hq)
  | ret=>
    show LeavesInM _ _ _ _ _ _ _ _ _
    rw[hs.defers];exact rC _ _ (goes_mono (λH ⟨vs,h1,h2⟩=>⟨_,rY hs.get hl h1,h2⟩) hq)
  | _=>exact hq.elim
end
end Go.Mw
namespace Go.Proofs.YtkfpleidaoaonaaGreatDoor
open Go Go.Mw Go.Lib Go.Proofs.Tryz
set_option maxRecDepth 4000
attribute [local irreducible] FW FL FG FGn fZ gG cO gW Qfn Gives
theorem vI {l:L8} (h:Lib.indexByte l 32= -1):bY 32 l=[l]:=
 Df λc hc e=>by
  obtain⟨k,hk⟩:=zdc hc;exact Lib.indexByte_none h k (by rw[hk,e])
theorem EK {l:L8} {o:Nat} (h:Lib.indexByte l 32=o):o<l.length/\bY 32 l=l.take o::bY 32 (l.drop (o+1)):=by
 obtain⟨h1,h2⟩:=Lib.indexByte_some h;have bH:=(zaz.1 h1).1
 have e:l=l.take o++32::l.drop (o+1):=by
  have e1:l.drop o=32::l.drop (o+1):=by
   rw[zbn bH]
   congr 1
   rw[zaa bH]at h1;injection h1
  conv=>lhs;rw[<-zbs o l,e1]
 refine⟨bH,?_⟩
 have:=FP (sep:=32) (w:=l.take o) (l:=l.drop (o+1)) λc hc e=>by
  obtain⟨k,hk⟩:=zdc hc;rw[zck]at hk
  split at hk
  .exact h2 k oM (by rw[hk,e])
  cases hk
 rw[<-this,<-e]
section
variable {w:Wd}
theorem R7 (l:L8):aY prog 304 [str l,str [32]] w λv w'=>v=I (Lib.indexByte l 32)/\w=w':=
 jQ (Tryz.strings_Index_one ⟨l.toArray⟩ 32 w)
theorem Wy {S:NP} {w0:Wd} {J:List (L8)->HP} {L:List (L8)->L8->HP} {l D:Nat} {ro rj:Obj} {bP bS bV:Nat} {s:L8} (hl:s.length<=1000000)
    (HW:Sep w0 S [obj l ro,obj D (.deferred (some [])),J [],blk bP [str [32]] 9,blk bS [str s] 9,blk bV [I 0] 3] w)
    (hy: ∀(pre:List (L8)) (x:L8) (Fr:List HP) (W:Wd),pre++[x]<+:bY 32 s->Sep w0 S (obj l ro::obj D (.deferred (some []))::J pre::Fr) W->Q8 prog l [str x] W λb W'=>if b=true then Sep w0 S (obj l ro::obj D (.deferred (some []))::J (pre++[x])::Fr) W' else Sep w0 S [obj l rj,obj D (.deferred (some [])),L pre x] W'):
    aY prog 346 [.func (.yield l) #[] #[],av bP,av bS,av bV] w λ_ W'=>Sep w0 S [obj l ro,obj D (.deferred (some [])),J (bY 32 s)] W'\/∃pre x,pre++[x]<+:bY 32 s/\Sep w0 S [obj l rj,obj D (.deferred (some [])),L pre x] W':=by
  have H:=HW;refine y8 func346 rfl rfl rfl rfl ?_;refine Za3 ?_;refine Qn (Cp rfl (λk=>?_) (λk=>?_))
  . exact zap k dC
  refine Zb0 ?_;refine aR (λ_:List (L8)×L8=>[(0,.func (.yield l) #[] #[]),(1,av bP),(2,av bS),(3,av bV)]) (λx w'=>(x.1++bY 32 x.2=bY 32 s/\x.2.length<=s.length)/\Sep w0 S [obj l ro,obj D (.deferred (some [])),J x.1,blk bP [str [32]] 9,blk bS [str x.2] 9,blk bV [I 0] 3] w') (λx _=>x.2.length) ([],s) tR ⟨⟨rfl,zbk _⟩,H⟩ (λx τ _ hI=>?_);obtain⟨pre,t⟩:=x;obtain⟨⟨F9,Ml⟩,k⟩:=hI;dsimp only at F9 Ml k
  try simp only[cK,like,aS,bK]
  refine Zb2 ?_;refine eY (R7 t) (h:=?_);refine Za3 ?_;refine Qn (Cp rfl (λa=>?_) (λa=>?_))
  . have ahM:Lib.indexByte t 32= -1:=by have h1:=a;have h2:=Lib.indexByte_ge t 32;omega
    have jm:pre++[t]<+:bY 32 s:=by rw[<-F9,vI ahM];exact List.prefix_refl _
    have jN:pre++[t]=bY 32 s:=by rw[<-F9,vI ahM]
    refine Zb2 ?_;refine Bl rfl (hy pre t _ _ jm k) rfl rfl (λb8 _ Rv=>?_);refine Zb0 ?_;cases b8 with
    | true=>rw[zac rfl]at Rv;rw[<-jN];exact .inl (Rv.firsts (l:=[_,_,_]))
    | false=>rw[zab dC]at Rv;exact .inr ⟨pre,t,jm,Rv⟩
  obtain⟨o,ho⟩: ∃o:Nat,Lib.indexByte t 32=o:=⟨(Lib.indexByte t 32).toNat,by have h1:=a;omega⟩;obtain⟨anT,hot⟩:=EK ho
  have jm:pre++[t.take o]<+:bY 32 s:=by
    rw[<-F9,hot];exact⟨bY 32 (t.drop (o+1)),sM⟩
  rw[ho];refine Zb3 ?_;refine Vc (o:Int) ?_;refine Vv (Gives.pR (i:=o) rfl rfl oM) (Zb3 ?_);refine Bl rfl (hy pre (t.take o) _ _ jm k) rfl rfl (λb8 _ Rv=>?_);refine Za1 ?_;refine Qn (Cd rfl (λa=>?_) (λa=>?_))
  . have hb:b8=false:=by have h1:=a;revert h1;cases b8<;>simp
    rw[hb,zab dC]at Rv;refine Zb0 ?_;exact .inr ⟨pre,t.take o,jm,Rv⟩
  have hb:b8=true:=by have h1:=a;revert h1;cases b8<;>simp
  rw[hb,zac rfl]at Rv;have a:=Rv;refine Zb4 ?_;refine Vv (Gives.PO (c:=((o+1:Nat):Int)) rfl rfl (by show(o:Int)+1=_;omega) oM) (Vv (Gives.oJ (i:=o+1) rfl rfl oM) ?_);refine bB a (h:=λ_ a=>?_);refine Zb0 ?_;exact aj (pre++[t.take o],t.drop (o+1)) tR ⟨⟨by dsimp only;rw[<-F9,hot];simp,by dsimp only;rw[zbq];omega⟩,a⟩ (by dsimp only;rw[zbq];omega)
end
end Go.Proofs.YtkfpleidaoaonaaGreatDoor
namespace Go.Mw
open Go.RowKit
theorem DC {P:Program} {T:Td} [h1:OneCell P T] {w:Wd} {b:Nat} {v:Value} {E:Td} (hb:w.heap[b]? =some (.cells [v].toArray E (0,0))):(loadVar T ⟨b,0,none⟩).run P w=.ok v w:=by
 have hc:w.cell? ⟨b,0,none⟩=some v:=jD hb 0;simp[loadVar,h1.agg,hc]
theorem R8 {P:Program} {T U:Td} [OneCell P T] [OneCell P U] {σ:St} {w:Wd} {a b x y:Nat} {v u:Value} {E F:Td} (hx:w.heap[x]? =some (.cells [v].toArray E (0,0))) (hy:w.heap[y]? =some (.cells [u].toArray F (0,0)))
    (ha:σ a=.pointer (some ⟨x,0,none⟩):=by exact rfl) (hb:σ b=.pointer (some ⟨y,0,none⟩):=by exact rfl):qz P σ w [.cell a T,.cell b U] [v,u]:=
  ⟨v,[u],⟨x,0,none⟩,rfl,ha,DC hx,u,[],⟨y,0,none⟩,rfl,hb,DC hy,rfl⟩
end Go.Mw
namespace Go.Proofs.YtkfpleidaoaonaaGreatDoor
open Go Go.Mw Go.Lib
set_option maxRecDepth 4000
attribute [local irreducible] FW FL FG FGn fZ gG cO gW Qfn Gives
theorem R9: ∀(l:L8),∀w∈bY 32 l,w.length<=l.length
 | [],w,h=>by
  have :w=[]:=by simpa[bY]using h
  rw[this];simp
 | c::l,w,h=>by
  have ih:=R9 l
  by_cases hc:c=32
  .rw[bY,zac hc]at h
   rcases zan.1 h with rfl | h
   .simp
   have:=ih w h;simp only[zal];omega
  obtain⟨H,ws,e1,e2⟩:=oK (sep:=32) (l:=l) hc;rw[e2]at h;rw[e1]at ih
  rcases zan.1 h with rfl | h
  .have:=ih H sM
   simp only[zal];omega
  have:=ih w (zag _ h);simp only[zal];omega
theorem uz (w:L8):fits (eB w).n:=by
 unfold eB fits
 split
 .dsimp only;omega
 split
 .rename_i k hk
  have:=zdv hk;simp at this;dsimp only;omega
 repeat' split
 all_goals first | exact G9 _ | (dsimp only;omega)
theorem Gh: ∀{ws:List (L8)},(∀y∈ws,qU (eB y) y=true)->readAll ws=some (ws.map eB)
 | [],_=>rfl
 | w::ws,h=>by
  rw[readAll,zac (h w sM),Gh λy hy=>h y (zag _ hy)];rfl
theorem Gi: ∀{ws:List (L8)} {x:L8},x∈ws->qU (eB x) x=false->readAll ws=none
 | w::ws,x,hm,hb=>by
  rw[readAll]
  split
  .rename_i hg
   rcases zan.1 hm with rfl | hm
   .rw[hb]at hg;cases hg
   rw[Gi hm hb];rfl
  rfl
def ac3 (b:Nat) (l:List aZ):HP:=exH λv=>star (blk b [v] 23) (bJ 92 3 aP v l)
def ai3 (b2 b3 b4:Nat) (pre:List (L8)):HP:=iT [jo (∀y∈pre,qU (eB y) y=true),blk b2 [.slice none 0 0] 23,blk b3 [I 0] 29,ac3 b4 (pre.map eB)]
def amZ (b2 b3:Nat) (_:List (L8)) (x:L8):HP:=iT [jo (qU (eB x) x=false),blk b2 [.slice none 0 0] 23,blk b3 [I 4] 29]
section
variable {w:Wd}
theorem Ta (s:L8):aY Tryz.prog 305 [str s,str [32],I 0] w λv w'=>∃x:Nat×Nat×Nat,v=.func (.func 346) #[] #[av x.1,av x.2.1,av x.2.2]/\True/\Turn noB (star (blk x.1 [str [32]] 9) (star (blk x.2.1 [str s] 9) (blk x.2.2 [I 0] 3))) w w':=by
 have H:=Sep.aJ w;refine y7 Tryz.func305 rfl rfl rfl rfl ?_;refine Sr (cB H (h:=λb1 _ k _=>?_));refine cB k (h:=λb3 _ k _=>?_);refine cB k (h:=λb5 _ k _=>?_);refine Zb1 ?_;refine Vv (Gives.makeFunc (fs:=[]) (us:=[]) (cs:=[.tmp 4,.tmp 3,.tmp 5]) rfl rfl) (Zb1 ?_);exact⟨(b3,b1,b5),rfl,trivial,(Sep.bD (Sep.aL (Sep.bD k.aU))).turn⟩
theorem Tc (s:L8):aY Tryz.prog 228 [str s,str [32]] w λv w'=>∃x:Nat×Nat×Nat,v=.func (.func 346) #[] #[av x.1,av x.2.1,av x.2.2]/\True/\Turn noB (star (blk x.1 [str [32]] 9) (star (blk x.2.1 [str s] 9) (blk x.2.2 [I 0] 3))) w w':=by
 have H:=Sep.aJ w;refine dF Tryz.func228 rfl rfl rfl rfl ?_;refine Zb3 ?_;refine aK (Ta s) rfl rfl (λv' _ hv=>?_);obtain⟨x,rfl,_,bZ,F1,hq,gT⟩:=hv;have k:=H.new bZ hq (λb hb=>(gT b hb).resolve_left id);refine Zb1 ?_;exact⟨x,rfl,trivial,k.turn⟩
theorem Te (l:L8):aY Tryz.prog 227 [str l,str [32]] w λv w'=>v=I ((l.count 32:Nat):Int)/\w=w':=
 jQ (Tryz.strings_Count_one ⟨l.toArray⟩ 32 w)
theorem aad (s:L8) (hl:s.length<=1000000\/1048576<s.length) (VI:s.length<=1000000000) (hT:gQ w):aY Tryz.prog 172 [str s] w λv w'=>∃x,v=.tuple #[x,I (dL s).2]/\True/\Turn noB (bJ 92 3 aP x (dL s).1) w w':=by
  have H:=Sep.aJ w;obtain⟨res,au⟩: ∃res,res=dL s:=⟨_,rfl⟩;rw[<-au];unfold dL at au;refine ac2 Tryz.func172 rfl rfl rfl rfl ?_;refine Sr (aO H (h:=λb1 _ k _=>?_));refine aO k (h:=λb3 _ k _=>?_);refine Zb4 ?_;refine aF (t:=10) rfl (λS=>?_) (λS=>?_)
  . rw[zac (.inl oM)]at au
    refine Zb1 ?_;refine bB k (h:=λ_ S=>?_);refine bB S (h:=λ_ S=>?_);refine Qn (Rs (Dz (h:=?_)));exact⟨[.slice none 0 0,I 5],R8 (S.obj At1) (S.obj At0),.slice none 0 0,by rw[au];rfl,trivial,by rw[au];exact(Sep.nE S 92 3 aP).first.turn⟩
  have q9:s.length<=1000000:=oM;have Rq:=Rl s 32;refine Zb1 ?_;refine eY (Te s) (h:=?_);refine Za2 ?_;refine Qn (Cp rfl (λS=>?_) (λS=>?_))
  . rw[zac (.inr oM)]at au
    refine Sr (bB k (h:=λ_ S=>?_));refine bB S (h:=λ_ S=>?_);refine Qn (Rs (Dz (h:=?_)));exact⟨[.slice none 0 0,I 5],R8 (S.obj At1) (S.obj At0),.slice none 0 0,by rw[au];rfl,trivial,by rw[au];exact(Sep.nE S 92 3 aP).first.turn⟩
  have S:s.count 32<64:=oM;rw[zab oM]at au;refine Za2 ?_;refine Qn (Cp rfl (λS=>?_) (λS=>?_))
  . rw[zac S]at au
    refine Sr (bB k (h:=λ_ a=>?_));refine bB a (h:=λ_ a=>?_);refine Qn (Rs (Dz (h:=?_)));exact⟨[.slice none 0 0,I 0],R8 (a.obj At1) (a.obj At0),.slice none 0 0,by rw[au];rfl,trivial,by rw[au];exact(Sep.nE a 92 3 aP).first.turn⟩
  rw[zab S]at au;refine Zb0 ?_;refine aO k (h:=λb4 _ a _=>?_);refine Zb1 ?_;refine aK (Tc s) rfl rfl (λv' S hv=>?_);obtain⟨⟨bP,bS,bV⟩,rfl,_,bZ,F1,hq,gT⟩:=hv;dsimp only at hq;have k:=a.new bZ hq (λb hb=>(gT b hb).resolve_left id);refine Zb0 ?_;have hcs:=uP 32 s
  have HJ:Mw.Sep w noB (ai3 b1 b3 b4 []::[blk bP [str [32]] 9,blk bS [str s] 9,blk bV [I 0] 3]) S:=by
    have h1:=(Sep.nE k 92 3 aP).aU;have h4:=Sep.uq (p:=λv=>star (blk b4 [v] 23) (bJ 92 3 aP v [])) (.slice none 0 0) (Sep.bD h1);have h7:=Sep.bundle (l:=[jo (∀y∈([]:List (L8)),qU (eB y) y=true),_,_,_]) (rs:=[_]) (Sep.jS (λy hy=>zap hy zao) h4.aU.bE);exact h7.aL.bR.aL.bR.bE.bE.ain
  refine Nq (gf:=346) (lb:=[av bP,av bS,av bV]) str (bY 32 s) (ai3 b1 b3 b4) (amZ b1 b3) _ HJ rfl rfl ?_ ?_ ?_ ?_
  . intro l D ro rb pre x Fr W jm HW
    have ZB:x∈bY 32 s:=jm.subset (zce pre (zar.2 rfl));have hxl:x.length<=1000000:=zcl (R9 s x ZB) q9;have Yu:pre.length+1<=64:=by have:=jm.length_le;rw[zad,zah]at this;omega
    have Bz:(pre.map eB).length=pre.length:=zaf _;have hmp:(pre++[x]).map eB=pre.map eB++[eB x]:=by rw[zau];rfl
    refine Za1 ?_;refine uT (pO ?_);refine⟨[],HW,λWB HB=>?_⟩;have HB2:Mw.Sep w noB (obj l rb::obj D (.deferred (some []))::ai3 b1 b3 b4 pre::Fr) WB:=HB;replace HB2:=(HB2.aU).parts;obtain⟨Aj,HB3⟩:=HB2.rO;obtain⟨v4,HB4⟩:=(Sep.aU HB3).ex0;replace HB:=HB4.bR;obtain⟨B4,cb,rfl,Po,hB4⟩:=Sep.dQ HB At1;refine Zb1 ?_;refine aD HB (aac x hxl (hT.keep HB.kept)) (h:=λ_ k _=>?_);refine aO k (h:=λb6 _ k _=>?_);refine ak k (h:=λ_ k=>?_);refine Zb1 ?_;refine aD k (Yk (eB x) (uz x) (hT.keep k.kept).utf) (h:=λ_ k _=>?_);refine Zb2 ?_;refine gu (t:=25) rfl (λS=>?_) (λS=>?_)
    . have rM:qU (eB x) x=false:=by
        have h1:=S;unfold qU
        revert h1
        cases iE (eB x)<;>simp
      refine Zb1 ?_;refine bB k (h:=λ_ a=>?_);refine bB a (h:=λ_ a=>?_);refine Qn (Rs (bM (yE ?_)));exact(Sep.bundle (l:=[jo (qU (eB x) x=false),_,_]) (rs:=[_,_]) (Sep.jS rM ((a.jL.jL.jL.jL).firsts (l:=[_,_,_,_])))).El
    have VI:iE (eB x)=true:=by have h1:=S;revert h1;cases iE (eB x)<;>simp
    refine Zb1 ?_;refine aD k (RO (eB x) VI (uz x) (hT.keep k.kept)) (h:=λ_ a _=>?_);refine Za3 ?_;refine Qn (Cp rfl (λS=>?_) (λS=>?_))
    . have rM:qU (eB x) x=false:=by
        unfold qU;rw[VI,zas (show ¬gF (eB x)=x from S)];rfl
      refine Sr (bB a (h:=λ_ k=>?_));refine bB k (h:=λ_ k=>?_);refine Qn (Rs (bM (yE ?_)));exact(Sep.bundle (l:=[jo (qU (eB x) x=false),_,_]) (rs:=[_,_]) (Sep.jS rM ((k.jL.jL.jL.jL).firsts (l:=[_,_,_,_])))).El
    have hgx:qU (eB x) x=true:=FN.2 ⟨VI,zca.1 S⟩;refine Zb2 ?_;refine Bs a ([eB x].flatMap aP) (λbs _ k _=>?_);refine gP k (news:=[eB x]) At2 (by rw[Bz];unfold maxLen;simp;omega) (by rw[Bz];show(pre.length+1)*32<=_;omega) (by intro u hu;simp only[zbc,zem,aP,zci,zan,zao,or_false]at hu;rcases hu with rfl | rfl | rfl<;>rfl) (h:=?_);intro v2 k k;rw[<-hmp]at k;obtain⟨B2,c2,rfl,S,hB2⟩:=Sep.dQ k At2;refine bB k (h:=λ_ S=>?_);refine uT (uo (Ck ?_));have h2:=Sep.uq (p:=λv=>star (blk b4 [v] 23) (bJ 92 3 aP v ((pre++[x]).map eB))) _ (Sep.bD S.dA)
    have hg2: ∀y∈pre++[x],qU (eB y) y=true:=by
      intro y hy
      rcases zbi.1 hy with h | h
      . exact Aj y h
      rw[zar.1 h];exact hgx
    exact(Sep.bundle (l:=[jo (∀y∈pre++[x],qU (eB y) y=true),_,_,_]) (Sep.jS hg2 h2.El)).El
  . intro l D ro rj W HW hy
    exact Wy q9 HW hy
  rotate_left 1
  . intro D W pre x jm HD
    obtain⟨rM,HD2⟩:=((HD.aL).parts).rO;have hr:=Gi (jm.subset (zce pre (zar.2 rfl))) rM;rw[hr]at au;exact bM (dM (vH HD2 At2 (λ_ S=>⟨[.slice none 0 0,I 4],R8 (S.obj At0) (S.obj At1),.slice none 0 0,by rw[au];rfl,trivial,by rw[au];exact(Sep.nE S 92 3 aP).first.turn⟩)))
  intro D S S;have S:=(S.aL).parts;obtain⟨Aj,S⟩:=S.rO;obtain⟨v4,S⟩:=(Sep.aU S).ex0;have S:=S.bR;obtain⟨B4,cb,rfl,Po,hB4⟩:=Sep.dQ S At1;rw[Gh Aj]at au;refine Zb1 ?_;refine bB S (h:=λ_ S=>?_);refine bB S (h:=λ_ S=>?_);refine Qn (dX (vH S At4 (hR:=λ_ S=>?_)));exact⟨[_,I 0],R8 (S.obj At2) (S.obj At3),_,by rw[au];rfl,trivial,by rw[au];exact S.aL.first.turn⟩
end
end Go.Proofs.YtkfpleidaoaonaaGreatDoor
namespace Go.Proofs.YtkfpleidaoaonaaGreatDoor
open Go Go.Lib
set_option maxRecDepth 4000
def ac4:Nat->Nat->L8
 | 0,_=>[]
 | f+1,u=>if u<10 then [UInt8.ofNat (48+u)]else ac4 f (u/10)++[UInt8.ofNat (48+u%10)]
theorem Qc: ∀(f u:Nat),u<10^f->0<f->ac4 f u=decDigits u
 | 0,u,_,h0=>zap h0 dC
 | f+1,u,h,_=>by
  rw[ac4,decDigits]
  by_cases hu:u<10
  .rw[zac hu,dif_pos hu]
  rw[zab hu,dif_neg hu];have h1:u/10<10^f:=by rw[Nat.pow_succ]at h;omega
  have h2:0<f:=by
   cases f with
   | zero=>simp at h1;omega
   | succ f=>exact Nat.succ_pos f
  rw[Qc f (u/10) h1 h2]
def YP (n:Int):L8:=if n<0 then 45::ac4 20 n.natAbs else ac4 20 n.toNat
theorem ac5 {n:Int} (h:fits n):YP n=itoa n:=by
 unfold fits at h;unfold YP itoa;rw[Qc 20 n.natAbs oM dC,Qc 20 n.toNat oM dC]
def ac6 (x:aZ):L8:=
 if x.kind=1 then 35::YP x.n
 else if x.kind=2 then YP x.n
 else if x.kind=3 then(if x.n=1 then [116,114,117,101]else [102,97,108,115,101])
 else if x.kind=4 then OZ x.s
 else if x.kind=5 then 120::xq x.s
 else if x.kind=6 then nD x.n
 else jZ.getD (x.kind-7).toNat []
theorem ac7 {x:aZ} (h:fits x.n):ac6 x=gF x:=by
 unfold ac6 gF;rw[ac5 h]
def YQ:List (L8)->Option (List aZ)
 | []=>some []
 | w::l=>if(iE (eB w)&&decide (ac6 (eB w)=w))=true then(YQ l).map (eB w:: ·)else none
theorem Tf: ∀l,YQ l=readAll l
 | []=>rfl
 | w::l=>by
  rw[YQ,readAll,ac7 (uz w),Tf l];rfl
def ac8 (s:L8):List aZ×Int:=
 if 1048576<s.length\/64<=s.count 32 then([],5)else if s=[]then([],0)else match YQ (bY 32 s)with
  | some l=>(l,0)
  | none=>([],4)
theorem Nr (s:L8):ac8 s=dL s:=by
 unfold ac8 dL;rw[Tf];cases readAll (bY 32 s)<;>rfl
open Go.Mw
theorem Kg (s:L8): ∀x∈(dL s).1,fits x.n:=by
 have key: ∀(ws:List (L8)) (l:List aZ),readAll ws=some l->∀x∈l,fits x.n:=by
  intro ws
  induction ws with
  | nil=>intro l h x hx;injection h with h;subst h;cases hx
  | cons w ws ih=>
   intro l h x hx;rw[readAll]at h
   split at h
   .obtain⟨l',h1,h2⟩:=zav.1 h
    subst h2
    rcases zan.1 hx with rfl | hx
    .exact uz w
    exact ih l' h1 x hx
   cases h
 intro x hx;unfold dL at hx
 split at hx
 .cases hx
 split at hx
 .cases hx
 split at hx
 .rename_i l h;exact key _ l h x hx
 cases hx
section
variable {w:Wd}
end
section
variable {w:Wd}
end
end Go.Proofs.YtkfpleidaoaonaaGreatDoor
namespace Go.Mw
open Go.RowKit
section
variable {P:Program} {r:Option Nat} {n:Nat} {ops:AO} {Q:Post} {rest:LO} {σ:St} {w w0:Wd} {S:NP} {rs:List HP} {put:HP->List HP} {ty:Td} {pos:String} {after:Array Edge}
variable {α:Type} {enc:α->LV} {k e c:Nat} {l:List α} {A:OA}
theorem Tg (hk: ∀x,(enc x).length=k): ∀{l:List α} {i f:Nat} {a a':α} {v:Value},l[i]? =some a->f<k->enc a'=(enc a).set f v->(l.flatMap enc).set (i*k+f) v=(l.set i a').flatMap enc
 | [],_,_,_,_,_,h,_,_=>by simp at h
 | x::l,0,f,a,a',v,h,hf,he=>by
  simp only[zcc,Option.some.injEq]at h;subst h;rw[zbc,Nat.zero_mul,zdm,List.set_append_left _ _ (by rw[hk];exact hf),zea,zbc,he]
 | x::l,i+1,f,a,a',v,h,hf,he=>by
  simp only[zch]at h;rw[zbc,zfj _ _ (by rw[hk,zds];omega),hk,zds,show i*k+k+f-k=i*k+f from oM,Tg hk h hf he,zgb,zbc]
theorem Gj {x y:Od} {T:Td} [h1:OneCell P T] [hk:jf enc k] {i f:Nat} {a:α} (a':α) {v:Value} {m:Nat} (hm:m=l.length) (H:Sep w0 S rs w) (hat:At rs (bJ e k enc (.slice A m c) l) put) (hi:l[i]? =some a) (hf:f<k) (he:enc a'=(enc a).set f v) (hx:evF σ x=adr A (i*k+f)) (hy:evF σ y=v) (hv:v.oneCell'=true):
    ∃w',MC P (evF σ) (.store T x y) ty w w'/\Sep w0 S (put (bJ e k enc (.slice A m c) (l.set i a'))) w':=by
  subst hm;have bH:i<l.length:=(zaz.1 hi).1;obtain⟨F,hp,hS,jO⟩:=H.focus hat;have I:=Sep.bW hp;obtain⟨g,c',rest,hvv,hlen,hxl,q9,VI,d⟩:=I.Zi At0 oM;injection hvv with hA _ hc
  subst hA;subst hc;have hb:=d.obj At0;have JA:=jr hk.len l;have VP:(i+1)*k<=l.length*k:=Nat.mul_le_mul_right k bH;rw[zds]at VP;have alK:i*k+f<(l.flatMap enc++rest).length:=by rw[zad,JA];omega
  obtain⟨bZ,Ji⟩:=yj (v:=v) hb alK;have I:=d.setObj (At0 (p:=blk g (l.flatMap enc++rest) e) (l:=[])) bZ Ji;rw[abL (by rw[JA];omega),Tg hk.len hi hf he]at I;have d:Sep w F [blk g ((l.set i a').flatMap enc++rest) e] (w.setCell ⟨g,i*k+f,none⟩ v):=I;have Yv:=jr hk.len (l.set i a');rw[zgd]at Yv;have I:=d.Zj (n:=l.length) (c:=c) At0 (by rw[zad,Yv];rw[zad,JA]at hlen;exact hlen) Yv q9 VI;refine⟨w.setCell ⟨g,i*k+f,none⟩ v,λ_ _ _ _=>?_,?_⟩
  . have fU:(store (⟨g,i*k+f,none⟩:Addr) v).run P w=.ok () (w.setCell ⟨g,i*k+f,none⟩ v):=by
      rw[run_store P w _ v _ hv,jD hb,zaa alK];simp[World.frozen?,hb]
    have hcs:v.cells= #[v]:=by cases v<;>first | rfl | cases hv
    have EC:evF σ x=.pointer (some ⟨g,i*k+f,none⟩):=by rw[hx];show Value.pointer (some (Addr.add ⟨g,0,none⟩ (i*k+f)))=_;rw[Addr.add_lit,zdm]
    simp[execOp,EC,hy,Instr.storeAt,Instr.sureAddr,storeVar,h1.size,hcs,storeCells,fU,Addr.add_zero']
  obtain⟨h5,F5,h6,h7⟩:=I;refine jO _ F5 _ h5 ?_ λb hb=>h7 b hb;have h8:=Bj.1 h6;show(yU e k (.slice (some ⟨g,0,none⟩) l.length c) (l.set i a').length ((l.set i a').flatMap enc)).ok F5 _
  rw[zgd];exact h8
theorem Ns {x y:Od} {T:Td} [h1:OneCell P T] [hk:jf enc k] {i f:Nat} {a:α} (a':α) {v:Value} {m:Nat} (hm:m=l.length) (H:Sep w0 S rs w) (hat:At rs (bJ e k enc (.slice A m c) l) put) (hi:l[i]? =some a) (hf:f<k) (he:enc a'=(enc a).set f v) (hx:evF σ x=adr A (i*k+f)) (hy:evF σ y=v) (hv:v.oneCell'=true)
    (h: ∀w',Sep w0 S (put (bJ e k enc (.slice A m c) (l.set i a'))) w'->FL P r n ops Q rest σ w'):
    FL P r n ops Q (⟨none,.store T x y,ty,pos,after,none⟩::rest) σ w:=by
  obtain⟨w',ha,hs⟩:=Gj (P:=P) (ty:=ty) (T:=T) a' hm H hat hi hf he hx hy hv;exact EI ha rfl (h w' hs)
theorem Gives.aae {ρ:Od->Value} {x y:Od} {t e:Td} [ht:dh P t e] {bytes:Nat} [hc:Cells P e k bytes] {m i:Nat} {j:IntKind} (hm:m=l.length) (hx:ρ x=.slice A m c) (hy:ρ y=.int j i) (hr:Rd w0 A enc k l) (bH:i<l.length):Gives P ρ (.indexAddr t x y) ty w (adr A (i*k)) w:=by
 subst hm;exact Gives.jJ hx hy hr bH
theorem ou {m:Nat} (hm:m=l.length) (H:Sep w0 S rs w) (hat:At rs (bJ e k enc (.slice A m c) l) put):Rd w A enc k l:=by
 subst hm;exact Sep.rowAt H hat
theorem Gives.ac9 {ρ:Od->Value} {x y:Od} {kd:IntKind} {a b m:Int} {ts:Array Td} (hx:ρ x=.int kd a) (hy:ρ y=.int kd b) (he:Min.min a b=m):Gives P ρ (.call {callee:=.builtin .min,args:= #[x,y],argTypes:=ts}) ty w (.int kd m) w:=by subst he;exact Gives.min hx hy
end
end Go.Mw
namespace Go.Proofs.YtkfpleidaoaonaaGreatDoor
open Go Go.Mw Go.Lib
set_option maxRecDepth 4000
def pG (x:aZ):aZ:=⟨x.kind,x.n,x.s.take 1100⟩
theorem Kh (s:L8) (k:Nat):Min.min ((s.length:Nat):Int) (k:Int)=(((s.take k).length:Nat):Int):=by
 rw[zaj];omega
theorem Ki (s:L8) (k:Nat):s.take (s.take k).length=s.take k:=by
 rw[zaj]
 by_cases h:k<=s.length
 .rw[zcv h]
 rw[Nat.min_eq_right oM,zbo,zax oM]
section
variable {w:Wd}
end
end Go.Proofs.YtkfpleidaoaonaaGreatDoor
namespace Go.Proofs.YtkfpleidaoaonaaGreatDoor
open Go Go.Mw Go.Lib
set_option maxRecDepth 4000
section
variable {w:Wd}
end
section
variable {w:Wd}
end
end Go.Proofs.YtkfpleidaoaonaaGreatDoor
