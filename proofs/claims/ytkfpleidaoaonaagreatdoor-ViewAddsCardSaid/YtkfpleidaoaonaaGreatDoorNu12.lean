/-
 The program's reader of literals reads as the document tells:plain laws.
-/
import Derived.Test.YtkfpleidaoaonaaGreatDoorNu1
import Derived.Test.YtkfpleidaoaonaaGreatDoorNu11
import Derived.Test.YtkfpleidaoaonaaGreatDoorNu3
import Derived.Test.YtkfpleidaoaonaaGreatDoorNu4
set_option linter.unusedVariables false
set_option linter.unusedSimpArgs false
namespace Go.Proofs.YtkfpleidaoaonaaGreatDoor
open Go Go.Mw Go.Lib
theorem qz (e:Int):lG e 41≠0:=by
 unfold lG
 split
 .decide
 assumption
theorem NY {l:L8} {a:Nat} {e:Int} (h:e≠0):eX l a e=(0,a,e):=zac h
theorem zL {l:L8} {a:Nat} {e:Int} (h:e≠0):(fU l a e).2.2≠0:=by
 unfold fU;rw[NY h];show(lG e 41)≠0
 exact qz e
theorem UJ {e:Int} {p:Prop} [Decidable p] (h:e≠0):(if p then lG e 41 else e)≠0:=by
 split
 .exact qz e
 exact h
theorem anW {l:L8} {a:Nat} {e:Int} {c:UInt8} (h:e≠0):(mZ l a e c).2≠0:=by
 unfold mZ;rw[NY h];dsimp only
 split
 .exact h
 exact qz e
theorem afY {l:L8} {a:Nat} {e:Int} {s:Bool} (h:e≠0):(qy l a e s).2.2≠0:=by
 unfold qy;exact zL (zL (UJ (zL (UJ (zL h)))))
theorem Jo {l:L8} {a:Nat} (ha:a<=l.length) (h:l[a]? =none):(fU l a 0).2.2≠0:=by
 have :a=l.length:=by have:=zfx.1 h;omega
 unfold fU eX;rw[zab sM,zac this];show lG 3 41≠0
 exact qz 3
theorem z8 {l:L8} {a:Nat} {c:UInt8} (h:l[a]? =some c):eX l a 0=(c,a+1,0):=by
 have:=(zbd.1 h).1;unfold eX;rw[zab sM,zab oM,zau,h];rfl
theorem Nn {l:L8} {a:Nat} {c:UInt8} (h:l[a]? =some c) (hd:pY c=none):(fU l a 0).2.2≠0:=by
 unfold fU;rw[z8 h];dsimp only;rw[hd];exact qz 0
theorem UK {l:L8} {a d:Nat} {c:UInt8} (h:l[a]? =some c) (hd:pY c=some d):fU l a 0=(d,a+1,0):=by
 unfold fU;rw[z8 h];dsimp only;rw[hd]
theorem W9 {l:L8} {a:Nat} {s:Bool} (ha:a<=l.length):((vE (l.drop a) s).2=0->qy l a 0 s=((vE (l.drop a) s).1,a+4,0))/\((vE (l.drop a) s).2≠0->(qy l a 0 s).2.2≠0):=by
 unfold vE;simp only[zct,zfj];unfold qy;cases h0:l[a]? with
 | none=>exact⟨λh=>zat h (show ¬(3:Int)=0 from dC),λ_=>zL (zL (UJ (zL (UJ (Jo ha h0)))))⟩
 | some c0=>
 have G8:=(zbd.1 h0).1;dsimp only;cases g0:pY c0 with
 | none=>exact⟨λh=>zat h (show ¬(41:Int)=0 from dC),λ_=>zL (zL (UJ (zL (UJ (Nn h0 g0)))))⟩
 | some d0=>
 rw[UK h0 g0];dsimp only
 by_cases hs:s=true/\d0≠13
 .rw[zac hs,zac hs]
  exact⟨λh=>zat h (show ¬(41:Int)=0 from dC),λ_=>zL (zL (UJ (zL (qz 0))))⟩
 rw[zab hs,zab hs];cases h1:l[a+1]? with
 | none=>exact⟨λh=>zat h (show ¬(3:Int)=0 from dC),λ_=>zL (zL (UJ (Jo oM h1)))⟩
 | some c1=>
 have hl1:=(zbd.1 h1).1;dsimp only;cases g1:pY c1 with
 | none=>exact⟨λh=>zat h (show ¬(41:Int)=0 from dC),λ_=>zL (zL (UJ (Nn h1 g1)))⟩
 | some d1=>
 rw[UK h1 g1];dsimp only
 by_cases Qv:s≠decide (220<=16*d0+d1/\16*d0+d1<=223)
 .rw[zac Qv,zac Qv]
  exact⟨λh=>zat h (show ¬(41:Int)=0 from dC),λ_=>zL (zL (qz 0))⟩
 rw[zab Qv,zab Qv];cases h2:l[a+2]? with
 | none=>exact⟨λh=>zat h (show ¬(3:Int)=0 from dC),λ_=>zL (Jo oM h2)⟩
 | some c2=>
 have hl2:=(zbd.1 h2).1;dsimp only;cases g2:pY c2 with
 | none=>exact⟨λh=>zat h (show ¬(41:Int)=0 from dC),λ_=>zL (Nn h2 g2)⟩
 | some d2=>
 have e2:fU l (a+1+1) 0=(d2,a+1+1+1,0):=UK h2 g2;rw[e2];dsimp only;cases h3:l[a+3]? with
 | none=>exact⟨λh=>zat h (show ¬(3:Int)=0 from dC),λ_=>Jo oM h3⟩
 | some c3=>
 dsimp only;cases g3:pY c3 with
 | none=>exact⟨λh=>zat h (show ¬(41:Int)=0 from dC),λ_=>Nn h3 g3⟩
 | some d3=>
 have e3:fU l (a+1+1+1) 0=(d3,a+1+1+1+1,0):=UK h3 g3;rw[e3];exact⟨λ_=>rfl,λh=>zat rfl h⟩
theorem afZ (r:Nat) (v:Utf8.valid (r:Int)=false):(Utf8.encode (r:Int)).data.toList=[239,191,189]:=by
 simp[Utf8.encode,v,Utf8.runeError]
theorem Xa (r:Nat):Nc (r:Int)=encodeRune (r:Int):=by
 by_cases h:r<=1114111/\(r<55296\/57343<r)
 .exact UC r h.1 h.2
 have v:Utf8.valid (r:Int)=false:=by simp[Utf8.valid];omega
 rw[Jk _ _ (afZ r v)];unfold encodeRune;rw[encodeRuneZ_bad oM];rfl
theorem Rq {l:L8} {a:Nat} {c:UInt8} (ha:a<=l.length) (h:l[a]? =none):(mZ l a 0 c).2≠0:=by
 have :a=l.length:=by have:=zfx.1 h;omega
 unfold mZ eX;rw[zab sM,zac this];dsimp only
 split
 .decide
 exact qz 3
theorem NZ {l:L8} {a:Nat} {c x:UInt8} (h:l[a]? =some x) (iF:x≠c):(mZ l a 0 c).2≠0:=by
 unfold mZ;rw[z8 h];dsimp only;rw[zab iF];exact qz 0
theorem UL {l:L8} {a:Nat} {c:UInt8} (h:l[a]? =some c):mZ l a 0 c=(a+1,0):=by
 unfold mZ;rw[z8 h];dsimp only;rw[zac rfl]
theorem adq (c:UInt8):O9 c=if c=47 then some 47 else LK c:=by
 unfold O9 LK
 by_cases h1:c=34
 .subst h1;rfl
 by_cases h2:c=92
 .subst h2;rfl
 by_cases h3:c=47
 .subst h3;rfl
 simp only[h1,h2,h3,if_false]
theorem anX:LK 0=none:=dC
theorem ajj {l:L8} {n:Nat} {g:Nat×Nat×Int} (h:g.2.2≠0):(adp l n g).2.2≠0:=h
theorem alS {l:L8} {n:Nat} {a:Nat×Int} (h:a.2≠0):(WY l n a).2.2≠0:=ajj (afY (anW h))
theorem alT {l:L8} {h:Nat×Nat×Int} (he:h.2.2≠0):(Z9 l h).2.2≠0:=by
 unfold Z9
 split
 .exact alS (anW he)
 exact he
attribute [local irreducible] qy mZ vE fU lG
theorem af0 {l:L8} {i r:Nat} (hi:i+6<=l.length) (hr:55296<=r):((aa9 (l.drop i) r).2.2=0->WY l r (mZ l (i+6) 0 92)=((aa9 (l.drop i) r).1,i+(aa9 (l.drop i) r).2.1,0))/\((aa9 (l.drop i) r).2.2≠0->(WY l r (mZ l (i+6) 0 92)).2.2≠0):=by
 have hd8:(l.drop i).drop 8=l.drop (i+8):=by rw[zfw]
 unfold aa9;rw[zct,zct,hd8];cases h6:l[i+6]? with
 | none=>exact⟨λh=>zat h (show ¬(3:Int)=0 from dC),λ_=>alS (Rq hi h6)⟩
 | some c6=>
 have hl6:=(zbd.1 h6).1;dsimp only
 by_cases g6:c6=92
 .subst g6
  rw[zab sM,UL h6];cases h7:l[i+7]? with
  | none=>exact⟨λh=>zat h (show ¬(3:Int)=0 from dC),λ_=>ajj (afY (Rq (a:=i+7) oM h7))⟩
  | some c7=>
  have hl7:=(zbd.1 h7).1;dsimp only
  by_cases g7:c7=117
  .subst g7
   rw[zab sM];unfold WY;have e7:mZ l (i+6+1) 0 117=(i+8,0):=UL h7;dsimp only;rw[e7];obtain⟨la,lb⟩:=W9 (l:=l) (a:=i+8) (s:=true) oM
   by_cases he:(vE (l.drop (i+8)) true).2≠0
   .rw[zac he]
    exact⟨λh=>zat h he,λ_=>ajj (lb he)⟩
   rw[zab he];have hq:=la (zbt.1 he);dsimp only;rw[hq];refine⟨λ_=>?_,λh=>(h (by dsimp only)).elim⟩;unfold adp;dsimp only;rw[zab sM];have e:65536+1024*((r:Int)-55296)+((vE (l.drop (i+8)) true).1:Int)-56320=((65536+1024*(r-55296)+(vE (l.drop (i+8)) true).1-56320:Nat):Int):=oM;rw[e,Xa]
  rw[zac g7];exact⟨λh=>zat h (show ¬(41:Int)=0 from dC),λ_=>ajj (afY (NZ (a:=i+7) h7 g7))⟩
 rw[zac g6];exact⟨λh=>zat h (show ¬(41:Int)=0 from dC),λ_=>alS (NZ h6 g6)⟩
theorem af2 {l:L8} {s:Bool} (h:(vE l s).2=0):4<=l.length:=by
 unfold vE at h;cases h0:l[0]? with
 | none=>rw[h0]at h;cases h
 | some c0=>
 cases h3:l[3]? with
 | some c3=>have:=(zbd.1 h3).1;omega
 | none=>
  exfalso;simp only[h0,h3]at h
  repeat' split at h
  all_goals first | cases h | exact zat h dC
theorem ajk {l:L8} {i:Nat} (hi:i<l.length):((zS (l.drop i)).2.2=0->CF l (i+1) 0=((zS (l.drop i)).1,i+(zS (l.drop i)).2.1,0))/\((zS (l.drop i)).2.2≠0->(CF l (i+1) 0).2.2≠0):=by
 have Lx:(l.drop i).drop 2=l.drop (i+2):=by rw[zfw]
 unfold zS CF;rw[zct,Lx];cases h1:l[i+1]? with
 | none=>
  have e1:i+1=l.length:=by have:=zfx.1 h1;omega
  have e2:eX l (i+1) 0=(0,i+1,3):=by unfold eX;rw[zab sM,zac e1]
  refine⟨λh=>zat h (show ¬(3:Int)=0 from dC),λ_=>?_⟩;rw[e2];unfold Rp;dsimp only;rw[zab (show ¬(0:UInt8)=47 from dC),anX];exact alT (afY (by rw[zab (show ¬(0:UInt8)=117 from dC)];exact qz 3))
 | some c=>
 have hl1:=(zbd.1 h1).1;rw[z8 h1];unfold Rp;dsimp only;rw[adq]
 by_cases h47:c=47
 .rw[zac h47,zac h47]
  subst h47;exact⟨λ_=>by dsimp only,λh=>(h (by dsimp only)).elim⟩
 rw[zab h47,zab h47];cases hb:LK c with
 | some k=>exact⟨λ_=>by dsimp only,λh=>(h (by dsimp only)).elim⟩
 | none=>
 dsimp only
 by_cases akB:c=117
 .rw[zab (by simp[akB]),zac akB]
  obtain⟨la,lb⟩:=W9 (l:=l) (a:=i+2) (s:=false) oM
  by_cases he:(vE (l.drop (i+2)) false).2≠0
  .rw[zac he]
   exact⟨λh=>zat h he,λ_=>alT (lb he)⟩
  rw[zab he];have hh:=af2 (zbt.1 he);rw[zbu]at hh;have hq:qy l (i+1+1) 0 false=((vE (l.drop (i+2)) false).1,i+6,0):=la (zbt.1 he);rw[hq];unfold Z9;dsimp only
  generalize (vE (l.drop (i+2)) false).1=r at hq
  by_cases hr:r<55296\/56319<r
  .rw[zac hr,zab oM,zab sM,Xa]
   exact⟨λ_=>by dsimp only,λh=>(h (by dsimp only)).elim⟩
  rw[zab hr,zac oM];exact af0 oM oM
 rw[zac akB,zab akB];exact⟨λh=>zat h (show ¬(41:Int)=0 from dC),λ_=>alT (afY (qz 0))⟩
end Go.Proofs.YtkfpleidaoaonaaGreatDoor
namespace Go.Proofs.YtkfpleidaoaonaaGreatDoor
open Go Go.Mw Go.Lib
set_option maxRecDepth 4000
attribute [local irreducible] FW FL FG FGn gu gy dh gH Qfn Gives
theorem alU:lG 0 3=3:=rfl
theorem ads {l:L8}:(VN l).1=if(mZ l 0 0 34).2=0 then(sU l (mZ l 0 0 34).1 []).1 else []:=by
 cases l with
 | nil=>rfl
 | cons c t=>
  by_cases h:c=34
  .subst h
   rw[UL (l:=34::t) (a:=0) rfl,zac rfl];rfl
  rw[zab (NZ (l:=c::t) (a:=0) rfl h)];show(if c≠34 then(([],0,41):L8×Nat×Int)else vF (t.length+1) t 1 []).1=[]
  rw[zac h]
theorem adt {l:L8} {i:Nat} {out:L8} (h:i<l.length) (hc:l.getD i 0=34):(sU l i out).1=out:=by
 rw[GR h hc.symm,zac rfl]
theorem ajl {l:L8} {i:Nat} {out:L8} (h:i<l.length) (hc:l.getD i 0=92):((CF l (i+1) 0).2.2=0->(sU l i out).1=(sU l (CF l (i+1) 0).2.1 (out++(CF l (i+1) 0).1)).1)/\((CF l (i+1) 0).2.2≠0->(sU l i out).1=[]):=by
 obtain⟨ha,hb⟩:=ajk h;have hs:=GR (out:=out) h hc.symm;rw[zab dC,zab dC,zac rfl]at hs
 by_cases he:(zS (l.drop i)).2.2=0
 .have hq:=ha he
  rw[zab (by simp[he])]at hs;rw[hs,hq];exact⟨λ_=>rfl,λh=>zat rfl h⟩
 rw[zac he]at hs;have hq:=hb he;rw[hs];exact⟨λh=>zat h hq,λ_=>rfl⟩
theorem adu {l:L8} {i:Nat} {out:L8} (h:i<l.length) (h34:l.getD i 0≠34) (h92:l.getD i 0≠92):((pW l i).2.2=true->(sU l i out).1=(sU l (pW l i).2.1 (out++(pW l i).1)).1)/\((pW l i).2.2=false->(sU l i out).1=[]):=by
 have hs:=GR (out:=out) h rfl;rw[zab h34]at hs;unfold pW
 by_cases h32:(l.getD i 0).toNat<32
 .rw[zac h32]
  rw[zac (UInt8.lt_iff_toNat_lt.2 h32)]at hs;rw[hs];exact⟨λh=>by(dsimp only at h;cases h),λ_=>rfl⟩
 rw[zab h32];rw[zab (λh=>h32 (UInt8.lt_iff_toNat_lt.1 h)),zab h92]at hs;cases hn:l6 (l.drop i)with
 | none=>
  rw[hn]at hs;rw[hs,zab sM];exact⟨λh=>by(dsimp only at h;cases h),λ_=>rfl⟩
 | some p=>
  obtain⟨r,n⟩:=p;have hnp:yQ (l.drop i)=(r,n):=by unfold yQ;rw[hn];rfl
  rw[hn,hnp,zac sM]at hs;rw[hs];exact⟨λ_=>rfl,λh=>by(dsimp only at h;cases h)⟩
theorem Xb (r:Int):(Nc r).length<=4:=by
 unfold Nc Utf8.encode;dsimp only
 repeat' split
 all_goals simp
attribute [local irreducible] qy mZ fU lG eX
theorem aad {l:L8} {a:Nat} {e:Int} (ha:a<=l.length):(CF l a e).1.length<=4/\(CF l a e).2.1<=l.length:=by
 have ht:=take_at (e:=e) ha;unfold CF Rp
 split
 .exact⟨sM,ht⟩
 split
 .exact⟨sM,ht⟩
 have hh:=UF (e:=if(eX l a e).1=117 then(eX l a e).2.2 else lG (eX l a e).2.2 41) (s:=false) ht
 generalize qy l (eX l a e).2.1 (if(eX l a e).1=117 then(eX l a e).2.2 else lG (eX l a e).2.2 41) false=h at *
 unfold Z9
 split
 .refine⟨?_,UF (Jl (Jl hh))⟩
  unfold WY adp;dsimp only
  split
  .simp
  exact Xb _
 refine⟨?_,hh⟩;dsimp only
 split
 .simp
 exact Xb _
theorem N7 (l:L8) (a:Nat) (e:Int):a<=(eX l a e).2.1:=by
 unfold eX
 split
 .exact zbf _
 split
 .exact zbf _
 dsimp only;omega
theorem Em (l:L8) (a:Nat) (e:Int):a<=(fU l a e).2.1:=by
 unfold fU
 split<;>exact N7 l a e
theorem Xc (l:L8) (a:Nat) (e:Int) (s:Bool):a<=(qy l a e s).2.1:=by
 unfold qy;exact zcp (zcp (zcp (Em l a e) (Em l _ _)) (Em l _ _)) (Em l _ _)
theorem Xd (l:L8) (a:Nat) (e:Int) (c:UInt8):a<=(mZ l a e c).1:=by
 unfold mZ;exact N7 l a e
theorem ajm {l:L8} {a:Nat} {e:Int}:a<=(CF l a e).2.1:=by
 have ht:=N7 l a e;unfold CF Rp
 split
 .exact ht
 split
 .exact ht
 have hh:=Xc l (eX l a e).2.1 (if(eX l a e).1=117 then(eX l a e).2.2 else lG (eX l a e).2.2 41) false
 generalize qy l (eX l a e).2.1 (if(eX l a e).1=117 then(eX l a e).2.2 else lG (eX l a e).2.2 41) false=h at *
 unfold Z9
 split
 .unfold WY adp
  dsimp only;exact zcp (zcp (zcp (zcp ht hh) (Xd l _ _ _)) (Xd l _ _ _)) (Xc l _ _ _)
 exact zcp ht hh
theorem UM {l:L8} {i:Nat} (hi:i<l.length):(pW l i).1.length<=4*((pW l i).2.1-i)/\i<=(pW l i).2.1/\(pW l i).2.1<=l.length/\((pW l i).2.2=true->i<(pW l i).2.1):=by
 unfold pW
 split
 .exact⟨sM,zbf _,dO,λh=>by cases h⟩
 split
 .rename_i r n hn
  obtain⟨_,h1,h2,_⟩:=xV hn;rw[zbu]at h2;dsimp only;rw[zag,zbu];exact⟨oM,oM,oM,λ_=>oM⟩
 exact⟨sM,zbf _,dO,λh=>by cases h⟩
section
variable {w:Wd}
theorem Xe (l:L8) (hl:l.length<=1000000) (hT:fA w):aN Tryz.prog 309 [str l] w λv w'=>(∃n e,v=.tuple #[str (VN l).1,I n,I e])/\Kept noB w w':=by
 have H:=Sep.aL w;obtain⟨res,ay⟩: ∃res,res=(VN l).1:=⟨_,rfl⟩;have Zv:=ay;rw[ads]at ay;have Zw:=Jl (l:=l) (at_:=0) (e:=0) (c:=34) (zak _);rw[<-Zv];refine eP Tryz.func309 rfl rfl rfl rfl ?_;refine Zb4 ?_;refine Vb [str l,I 0,I 0] ?_;refine dz H (cs:=[str l,I 0,I 0]) rfl (h:=λb5 w7 H7 k6=>?_);refine Zb2 ?_;obtain⟨F0,fZ,iK,aQ⟩:=H7.focus At0;refine aS (NW (l:=l) (at_:=0) (e:=0) 34 fZ hl (zak _)) rfl rfl (λv' wa hv=>?_);obtain⟨rfl,eB,F1,hq,hs⟩:=hv;have Ha:=aQ _ F1 _ eB hq hs;refine Nx (aW Ha (h:=λb6 wb Hb ka=>?_));replace Hb:=Sep.ako Hb;refine Zb0 ?_;refine aP (λ_:Nat×Int×L8=>[(0,str l),(5,aA b5),(6,aA b6)]) (λx w'=>(x.1<=l.length/\x.2.2.length<=4*x.1/\res=if x.2.1=0 then(sU l x.1 x.2.2).1 else [])/\Sep w noB [y7 b6 x.2.2,vQ b5 l x.1 x.2.1] w') (λx _=>if x.2.1=0 then l.length-x.1+1 else 0) ((mZ l 0 0 34).1,(mZ l 0 0 34).2,[]) tR ⟨⟨Zw,sM,ay⟩,Hb⟩ (λx τ wc hI=>?_);obtain⟨i,e,out⟩:=x;obtain⟨⟨hi,hol,gQ⟩,Hc⟩:=hI;dsimp only at hi hol gQ Hc;unfold vQ at Hc
 try simp only[dA,like,bB,bY]
 refine Za5 ?_;refine Qn (Cp rfl (λIa=>?_) (λIa=>?_))
 .have he0:e=0:=Ia
  subst he0;rw[zac rfl]at gQ;refine Za8 ?_;refine Qn (Cp rfl (λIb=>?_) (λIb=>?_))
  .have qp:i=l.length:=oM
   have aiD:res=[]:=by rw[gQ,TI oM]
   refine Zb1 ?_;obtain⟨F0,fZ,iK,aQ⟩:=Hc.focus At1;refine aS (qU (l:=l) (e:=0) 3 fZ) rfl rfl (λv' wd hv=>?_);obtain⟨rfl,eB,F1,hq,hs⟩:=hv;have Hd:=aQ _ F1 _ eB hq hs;rw[alU]at Hd;refine Zb0 ?_;exact ak (i,3,out) tR ⟨⟨hi,hol,by rw[aiD];rfl⟩,Hd⟩ (by show 0<(if(0:Int)=0 then _ else _);rw[zac rfl];omega)
  have bX:i<l.length:=oM;refine Za8 ?_;refine Qn (Cp rfl (λIc=>?_) (λIc=>?_))
  .have Id:l.getD i 0=34:=UInt8.toNat_inj.1 (by have h:=Ic;show(l.getD i 0).toNat=34;omega)
   rw[adt bX Id]at gQ;refine Zb0 ?_;refine Ds (λSa we He=>?_);refine Gm Sa 1 ?_;refine Zb4 ?_;obtain⟨F0,fZ,iK,aQ⟩:=He.focus At0;refine fO Sa 0 [(5,true),(4,false),(3,true),(2,true),(1,true)] rfl kR (E9 fZ oM) rfl kR kR (λv' wf hv=>?_);obtain⟨rfl,eB,F1,hq,hs⟩:=hv;have Hf:=aQ _ F1 _ eB hq hs;refine⟨ah (aY Hf (h:=ah (ah (ah (aK))))),?_⟩;refine Gp Sa 6 rfl rfl (λ_=>Gives.assign rfl) (Zb2 ?_);exact⟨⟨_,_,by rw[gQ];rfl⟩,Hf.kept⟩
  have Id:l.getD i 0≠34:=λh=>Ic (by rw[h];rfl);refine Za8 ?_;refine Qn (Cp rfl (λIe=>?_) (λIe=>?_))
  .have If:l.getD i 0=92:=UInt8.toNat_inj.1 (by have h:=Ie;show(l.getD i 0).toNat=92;omega)
   obtain⟨jA,tC⟩:=ajl (out:=out) bX If;rw[<-gQ]at jA tC;obtain⟨Q8,hb2⟩:=aad (l:=l) (a:=i+1) (e:=0) oM;have akC:=ajm (l:=l) (a:=i+1) (e:=0);obtain⟨q,hq⟩: ∃q,q=CF l (i+1) 0:=⟨_,rfl⟩;rw[<-hq]at jA tC Q8 hb2 akC
   have hif:res=if q.2.2=0 then(sU l q.2.1 (out++q.1)).1 else []:=by
    split
    .exact jA (by assumption)
    exact tC (by assumption)
   refine Zb4 ?_;refine Vc ((i+1:Nat):Int) ?_;refine Zb2 ?_;refine bM Hc (h:=λwg Hg=>?_);refine Zb1 ?_;obtain⟨F0,fZ,iK,aQ⟩:=Hg.focus At1;refine aS (aac (l:=l) (at_:=i+1) (e:=0) fZ hl oM) rfl rfl (λv' wh hv=>?_);obtain⟨rfl,eB,F1,hq',hs⟩:=hv;have Hh:=aQ _ F1 _ eB hq' hs;rw[<-hq];rw[<-hq]at Hh;obtain⟨F0,fZ,iK,aQ⟩:=Hh.focus At0;refine aS (vR fZ oM) rfl rfl (λv' wi hv=>?_);obtain⟨rfl,eB,F1,hq',hs⟩:=hv;have Hi:=aQ _ F1 _ eB hq' hs;refine Zb0 ?_;exact ak (q.2.1,q.2.2,out++q.1) tR ⟨⟨hb2,by dsimp only;rw[zad];omega,hif⟩,Hi⟩ (by dsimp only;rw[zac rfl];split<;>omega)
  have If:l.getD i 0≠92:=λh=>Ie (by rw[h];rfl);obtain⟨jA,tC⟩:=adu (out:=out) bX Id If;rw[<-gQ]at jA tC;obtain⟨Q8,hb3,hb2,akC⟩:=UM bX;obtain⟨q,hq⟩: ∃q,q=pW l i:=⟨_,rfl⟩;rw[<-hq]at jA tC Q8 hb2 hb3 akC;refine Zb1 ?_;obtain⟨F0,fZ,iK,aQ⟩:=Hc.focus At1;refine aS (adl (l:=l) (at_:=i) fZ hl bX (hT.keep Hc.kept).utf) rfl rfl (λv' wj hv=>?_);obtain⟨x1,rfl,hx1,eB,F1,hq',hs⟩:=hv;have Hj:=aQ _ F1 _ eB hq' hs;rw[<-hq]at hx1;rw[<-hq];rw[<-hq]at Hj
  have hif:res=if x1=0 then(sU l q.2.1 (out++q.1)).1 else []:=by
   split
   .exact jA (hx1.2 (by assumption))
   rename_i h0;cases hb:q.2.2 with
   | true=>exact zat (hx1.1 hb) h0
   | false=>exact tC hb
  have hms:(if x1=0 then l.length-q.2.1+1 else 0)<l.length-i+1:=by
   split
   .have:=akC (hx1.2 (by assumption));omega
   omega
  obtain⟨F0,fZ,iK,aQ⟩:=Hj.focus At0;refine aS (vR fZ oM) rfl rfl (λv' wk hv=>?_);obtain⟨rfl,eB,F1,hq',hs⟩:=hv;have Hk:=aQ _ F1 _ eB hq' hs;refine Zb0 ?_;exact ak (q.2.1,x1,out++q.1) tR ⟨⟨hb2,by dsimp only;rw[zad];omega,hif⟩,Hk⟩ (by dsimp only;rw[zac rfl];exact hms)
 have aiD:res=[]:=by rw[gQ,zab Ia]
 refine Zb0 ?_;refine Ds (λSb wl Hl=>?_);refine Zb7 ?_;exact⟨⟨_,_,by rw[aiD];rfl⟩,Hl.kept⟩
end
end Go.Proofs.YtkfpleidaoaonaaGreatDoor
namespace Go.Proofs.YtkfpleidaoaonaaGreatDoor
open Go Go.Mw Go.Lib Tryz
set_option maxRecDepth 4000
attribute [local irreducible] FW FL FG FGn gu gy dh gH Qfn Gives
theorem aae {w:L8} {k:Int} (hw:w≠[]) (h1:1<=k) (h5:k<=5) (h: ∀j:Int,1<=j->j<k->qL j≠w) (hk:qL k=w):[1,3,4,5].find? (λk:Int=>decide (qL k=w))=some k:=by
 have hd: ∀j:Int,1<=j->j<k->decide (qL j=w)=false:=λj a b=>zar (h j a b);have hk':decide (qL k=w)=true:=zbe hk
 rcases (by omega :k=1\/k=2\/k=3\/k=4\/k=5)with e | e | e | e | e<;>subst e
 .simp only[zcj,hk']
 .exact zat hk.symm hw
 .simp only[zcj,hd 1 oM oM,hk']
 .simp only[zcj,hd 1 oM oM,hd 3 oM oM,hk']
 simp only[zcj,hd 1 oM oM,hd 3 oM oM,hd 4 oM oM,hk']
theorem aaf {w:L8} (h: ∀k:Int,1<=k->k<6->qL k≠w):[1,3,4,5].find? (λk:Int=>decide (qL k=w))=none:=by
 rw[zeq];intro k hk;simp only[zap,zaj,or_false]at hk;have:=h k oM oM;simpa using this
theorem adv:[1,3,4,5].find? (λk:Int=>decide (qL k=[]))=none:=dC
theorem aag (w:L8) (c:UInt8):Lib.hasPrefix w [c]=decide (w.head?=some c):=by
 unfold Lib.hasPrefix;cases w with
 | nil=>rfl
 | cons x t=>
  by_cases h:c=x
  .subst h;simp[List.isPrefixOf]
  have h': ¬x=c:=λe=>h e.symm;simp[List.isPrefixOf,h,h']
theorem ajn {p:L8->Bool} {i:Nat} (h:nX.findIdx? p=some i):nX[i]? =nX[i]? /\i<12:=by
 obtain⟨h1,_⟩:=zdc.1 h;exact⟨rfl,h1⟩
section
variable {w:Wd}
theorem LP (l:L8) (hl:l.length<=1000000) (hT:fA w):aN prog 308 [str l,I 10,I 64] w λv w'=>(∃e,v=.tuple #[I (o8 l),e])/\Kept noB w w':=by
 have hs:(⟨l.toArray⟩:ByteArray).size=l.length:=Mw.size_mk l;cases h:Lib.parseIntB 64 l
 .rename_i v
  have hn:o8 l=v:=by unfold o8;rw[h]
  rw[hn]
  exact Calls.mono (Tryz.strconv_ParseInt_10_at64_ok ⟨l.toArray⟩ (by rw[hs];omega) v h w) λe w' he=>by
   obtain⟨rfl,hw⟩:=he;refine⟨⟨_,rfl⟩,?_⟩
   rcases hw with rfl | ⟨t,rfl⟩
   .exact Kept.refl _ _
   exact Kept.of_below (Lib.bytesWorld_below _ _ _)
 .skip
  have hn:o8 l=0:=by unfold o8;rw[h]
  rw[hn];obtain⟨tp,p,hv⟩:=hT.syn
  exact Calls.mono (Tryz.strconv_ParseInt_10_at64_syntax_var ⟨l.toArray⟩ (by rw[hs];omega) h rfl tp p w hv) λe w' he=>by
   obtain⟨N,rfl,_,_,hb⟩:=he;exact⟨⟨_,rfl⟩,Kept.of_below hb⟩
 skip;have hn:o8 l=Lib.intSat 64 l:=by unfold o8;rw[h]
 rw[hn];obtain⟨tp,p,hv⟩:=hT.ran
 exact Calls.mono (Tryz.strconv_ParseInt_10_at64_range_var ⟨l.toArray⟩ (by rw[hs];omega) h tp p w hv) λe w' he=>by
  obtain⟨N,rfl,_,_,hb⟩:=he;exact⟨⟨_,rfl⟩,Kept.of_below hb⟩
theorem Bt (l:L8) (c:UInt8):aN prog 307 [str l,str [c]] w λv w'=>v=.bool (decide (l.head?=some c))/\w=w':=
 nD (by
  have:=Tryz.strings_HasPrefix ⟨l.toArray⟩ ⟨[c].toArray⟩ w;rw[<-aag];exact this)
theorem adw (s:L8) (hl:s.length<=1000000) (hT:fA w):aN prog 229 [str s] w λv w'=>v=agg (aD (gJ s))/\Kept noB w w':=by
  have H:=Sep.aL w;obtain⟨res,ay⟩: ∃res,res=gJ s:=⟨_,rfl⟩;rw[<-ay];unfold gJ at ay;obtain⟨ix,hix⟩: ∃ix,ix=nX.findIdx? (λx=>decide (x=s)):=⟨_,rfl⟩
  have aq4:nX.findIdx? (λy=>decide (s=y))=ix:=by
    rw[hix];exact zaw (λp=>nX.findIdx? p) (funext λy=>zbj.2 eq_comm)
  rw[<-hix]at ay;refine sI func229 rfl rfl rfl rfl ?_;refine Sr (aW H (h:=λb1 w2 H2 k1=>?_));refine Zb0 ?_;refine aS (WR) rfl rfl (λv' w4 hv=>?_);obtain⟨bs,rfl,_,eB,F1,hq,jw⟩:=hv;have H4:=H2.new eB hq (λb hb=>(jw b hb).resolve_left id);have hR:Rd w4 (some ⟨bs,0,none⟩) iW 1 nX:=Sep.qJ H4 At0 rfl;have hRI:aM w4 (.slice (some ⟨bs,0,none⟩) 12 12) iW 1 nX:=⟨some ⟨bs,0,none⟩,12,rfl,⟨zbf _,dC⟩,hR⟩;refine Mv ?_;refine aF H4 (ae2 s hRI) (h:=λw7 H7 k6=>?_);rw[aq4];refine Za3 ?_;refine Qn (Cp rfl (λIa=>?_) (λIa=>?_))
  . obtain⟨i,hi⟩: ∃i:Nat,ix=some i:=by
      cases ix with
      | some i=>exact⟨i,rfl⟩
      | none=>exact zat Ia dC
    have aq5:Fu ix=(i:Int):=by rw[hi];rfl
    rw[hi]at ay;dsimp only at ay;refine Zb1 ?_;rw[aq5];refine Vv (Gives.M5 (c:=(7+(i:Int))) rfl rfl rfl (by have:=(ajn (hix.symm.trans hi)).2;omega)) (Vb (aD ⟨7+(i:Int),0,[]⟩) ?_);refine au H7 (h:=λwa Ha=>?_);refine Qn (Rs (aX (h:=?_)));exact⟨_,jg Ha,by rw[ay];rfl,Ha.kept⟩
  have hi:ix=none:=by
    cases ix with
    | none=>rfl
    | some i=>exact zat (show Fu (some i)≥0 from Int.natCast_nonneg i) Ia
  rw[hi]at ay;dsimp only at ay;refine Zb1 ?_;refine aP (λk:Nat=>[(0,str s),(2,.pointer (some ⟨b1,0,none⟩)),(4,I k)]) (λk w'=>(1<=k/\k<=6/\∀j:Int,1<=j->j<k->s≠[]->qL j≠s)/\Sep w noB [blk b1 (aD ⟨0,0,[]⟩) 92] w') (λk _=>6-k) 1 tR ⟨⟨zbf _,dC,λj a b=>zat b oM⟩,(H7.aJ).firsts (l:=[_])⟩ (λk τ wb hI=>?_);obtain⟨⟨jH,hk6,hnb⟩,Hb⟩:=hI
  try simp only[dA,like,bB,bY]
  refine Za2 ?_;refine Qn (Cp rfl (λIb=>?_) (λIb=>?_))
  . refine Zb3 ?_
    refine aC (t:=28) rfl (λSa=>?_) (λSa=>?_)
    . have hs0:s≠[]:=Sa
      refine Zb2 ?_;refine aF Hb (VY (k:Int)) (h:=λwc Hc ka=>?_);refine Za2 ?_;refine Qn (Cp rfl (λIc=>?_) (λIc=>?_))
      . have Zl:[1,3,4,5].find? (λk:Int=>decide (qL k=s))=some (k:Int):=aae hs0 oM oM (λj a b=>hnb j a b hs0) (Eq.symm Ic)
        rw[Zl]at ay;dsimp only at ay;refine Zb1 ?_;refine Vb (aD ⟨6,(k:Int),[]⟩) ?_;refine au Hc (h:=λwd Hd=>?_);refine Qn (Rb (mW (dF (fG (aX (h:=?_))))));exact⟨_,jg Hd,by rw[ay];rfl,Hd.kept⟩
      have hnk:s≠[]->qL (k:Int)≠s:=λ_ h=>Ic h.symm;refine Zb1 ?_;refine Vc ((k+1:Nat):Int) ?_;refine Zb1 ?_;exact ak (k+1) tR ⟨⟨oM,oM,λj a b h0=>by
      by_cases e:j=k
      . rw[e];exact hnk h0
      exact hnb j a oM h0⟩,Hc⟩ oM
    have hs0:s=[]:=zbt.1 Sa;have hnk:s≠[]->qL (k:Int)≠s:=λh=>zat hs0 h;refine Zb2 ?_;refine Vc ((k+1:Nat):Int) ?_;refine Zb1 ?_;exact ak (k+1) tR ⟨⟨oM,oM,λj a b h0=>by
    by_cases e:j=k
    . rw[e];exact hnk h0
    exact hnb j a oM h0⟩,Hb⟩ oM
  have hk:k=6:=oM
  have Zl:[1,3,4,5].find? (λk:Int=>decide (qL k=s))=none:=by
    by_cases h0:s=[]
    . rw[h0];exact adv
    exact aaf λj a b=>hnb j a oM h0
  rw[Zl]at ay;dsimp only at ay;refine Za3 ?_;refine Qn (Cp rfl (λId=>?_) (λId=>?_))
  . rw[zac (show s=acN from Id)]at ay
    refine Sr (Vb (aD ⟨3,1,[]⟩) ?_);refine au Hb (h:=λwe He=>?_);refine Qn (Rb (aX (h:=?_)));exact⟨_,jg He,by rw[ay];rfl,He.kept⟩
  rw[zab (show ¬s=acN from Id)]at ay;refine Za3 ?_;refine Qn (Cp rfl (λIe=>?_) (λIe=>?_))
  . rw[zac (show s=VO from Ie)]at ay
    refine Sr (Vb (aD ⟨3,0,[]⟩) ?_);refine au Hb (h:=λwf Hf=>?_);refine Qn (Rb (aX (h:=?_)));exact⟨_,jg Hf,by rw[ay];rfl,Hf.kept⟩
  rw[zab (show ¬s=VO from Ie)]at ay;refine Zb1 ?_;refine gX (Bt s 35) (h:=?_);refine Am ?_;refine Qn (Cp rfl (λIf=>?_) (λIf=>?_))
  . have hh:s.head?=some 35:=If
    rw[zac hh]at ay;refine Zb1 ?_;refine Vv (Gives.sG (i:=1) rfl rfl (by cases s with | nil=>cases hh | cons a b=>simp)) (aS (LP (s.drop 1) (by rw[zbu];omega) (hT.keep Hb.kept)) rfl rfl (λv' wg hv=>?_));obtain⟨⟨er,rfl⟩,eB⟩:=hv;have Hg:=Hb.keep eB;refine Zb6 ?_;refine Vb (aD ⟨1,o8 (s.drop 1),[]⟩) ?_;refine au Hg (h:=λwh Hh=>?_);refine Qn (Rb (aX (h:=?_)));exact⟨_,jg Hh,by rw[ay];rfl,Hh.kept⟩
  rw[zab (show ¬s.head?=some 35 from If)]at ay;refine Zb1 ?_;refine gX (Bt s 34) (h:=?_);refine Am ?_;refine Qn (Cp rfl (λIg=>?_) (λIg=>?_))
  . rw[zac (show s.head?=some 34 from Ig)]at ay
    refine Zb1 ?_;refine aS (Xe s hl (hT.keep Hb.kept)) rfl rfl (λv' wi hv=>?_);obtain⟨⟨nn,er,rfl⟩,eB⟩:=hv;have Hi:=Hb.keep eB;refine Zb8 ?_;refine Vb (aD ⟨4,0,(VN s).1⟩) ?_;refine au Hi (h:=λwj Hj=>?_);refine Qn (Rb (aX (h:=?_)));exact⟨_,jg Hj,by rw[ay];rfl,Hj.kept⟩
  rw[zab (show ¬s.head?=some 34 from Ig)]at ay;refine Zb1 ?_;refine gX (Bt s 120) (h:=?_);refine Am ?_;refine Qn (Cp rfl (λIh=>?_) (λIh=>?_))
  . have hh:s.head?=some 120:=Ih
    rw[zac hh]at ay;refine Sr (Vb (bD jD) ?_);refine Mv ?_;refine aS (Z6 s hl hh (hT.keep Hb.kept).utf) rfl rfl (λv' wk hv=>?_);obtain⟨⟨er,rfl⟩,eB⟩:=hv;have Hk:=Hb.keep eB;refine Zb3 ?_;refine aW Hk (h:=λb129 wl Hl kb=>?_);refine au Hl (h:=λwm Hm=>?_);refine Zb3 ?_;refine Vb (aD ⟨5,0,JU s⟩) ?_;refine au Hm (h:=λwn Hn=>?_);refine Qn (Rb (aX (h:=?_)));exact⟨_,jg Hn,by rw[ay];rfl,Hn.kept⟩
  rw[zab (show ¬s.head?=some 120 from Ih)]at ay;refine Zb1 ?_;refine aS (LP s hl (hT.keep Hb.kept)) rfl rfl (λv' wo hv=>?_);obtain⟨⟨er,rfl⟩,eB⟩:=hv;have Ho:=Hb.keep eB;refine Zb6 ?_;refine Vb (aD ⟨2,o8 s,[]⟩) ?_;refine au Ho (h:=λwp Hp=>?_);refine Qn (fu (aX (h:=?_)));exact⟨_,jg Hp,by rw[ay];rfl,Hp.kept⟩
end
end Go.Proofs.YtkfpleidaoaonaaGreatDoor
namespace Go.Mw
open Go.RowKit
section
variable {P:Program} {r:Option Nat} {n:Nat} {ops:AO} {Q:Post} {rest:LO} {σ:St} {w w0:Wd} {S:NP} {rs:List HP} {put:HP->List HP} {ty:Td} {pos:String} {after:Array Edge}
theorem Rt {α:Type} {g:Od} {p:Tmp} {assign body:Code} {gf:FuncId} {lb:LV} [he:bC P gf] (enc:α->Value) (xs:List α) (J:List α->HP) (L:List α->α->HP) (Fr0:List HP) (H:Sep w0 S (J []::Fr0) w)
    (hg:evF σ g=.func (.func gf) #[] lb.toArray) (hp:Nat.blt p n=true)
    (aiE: ∀(l D:Nat) (ro rb:Obj) (pre:List α) (x:α) (Fr:List HP) (W:Wd),pre++[x]<+:xs->Sep w0 S (obj l ro::obj D (.deferred (some []))::J pre::Fr) W->
      FW P (some l) n assign (Nt λτ W'=>∃ex:List HP,Sep w0 S (obj l ro::obj D (.deferred (some []))::(ex++J pre::Fr)) W'/\
        ∀W'',Sep w0 S (obj l rb::obj D (.deferred (some []))::(ex++J pre::Fr)) W''->FW P (some l) n body (aa8 (λW3=>Sep w0 S (obj l rb::obj D (.deferred (some []))::J (pre++[x])::Fr) W3) (λW3=>Sep w0 S [obj l rb,obj D (.deferred (some [])),L pre x] W3)) τ W'') (upd ⟨σ.get,[]⟩ p (enc x)) W)
    (aiF: ∀(l D:Nat) (ro rj:Obj) (W:Wd),Sep w0 S (obj l ro::obj D (.deferred (some []))::J []::Fr0) W->
      (∀(pre:List α) (x:α) (Fr:List HP) (W:Wd),pre++[x]<+:xs->Sep w0 S (obj l ro::obj D (.deferred (some []))::J pre::Fr) W->VK P l [enc x] W λb W'=>if b=true then Sep w0 S (obj l ro::obj D (.deferred (some []))::J (pre++[x])::Fr) W' else Sep w0 S [obj l rj,obj D (.deferred (some [])),L pre x] W')->
      aN P gf (.func (.yield l) #[] #[]::lb) W λ_ W'=>Sep w0 S [obj l ro,obj D (.deferred (some [])),J xs] W'\/∃pre x,pre++[x]<+:xs/\Sep w0 S [obj l rj,obj D (.deferred (some [])),L pre x] W')
    (Zx: ∀(D:Nat) (W:Wd),Sep w0 S [obj D (.deferred (some [])),J xs] W->Q .normal ⟨σ.get,{target:=.collected D,args:= #[]}::σ.ds⟩ W)
    (aoC: ∀(D:Nat) (W:Wd) (pre:List α) (x:α),pre++[x]<+:xs->Sep w0 S [obj D (.deferred (some [])),L pre x] W->Q .ret ⟨σ.get,{target:=.collected D,args:= #[]}::σ.ds⟩ W):
    FW P none n (.rangeFunc g #[p] assign body) Q σ w:=by
  intro a ha;refine wpIn_rangeFunc λfn Zl=>?_
  let rec_:LoopState->Obj:=λst=>acy st fn a.tmps #[p] assign body w.heap.size
  let recj:Obj:=.loop {state:=.done,pending:=some .ret,fn:=fn,tmps:=a.tmps,params:= #[p],assign:=assign,body:=body,defers:=w.heap.size}
  obtain⟨W1,hW1⟩: ∃W1,(w.alloc (.deferred (some []))).alloc (rec_ .ready)=W1:=⟨_,rfl⟩
  have H1:Sep w0 S (obj (w.heap.size+1) (rec_ .ready)::obj w.heap.size (.deferred (some []))::J []::Fr0) W1:=by
    have h1:=(H.alloc (.deferred (some []))).alloc (rec_ .ready);rw[World.size_alloc]at h1;rw[<-hW1];exact h1
  refine⟨w.heap.size+1,[{target:=.collected w.heap.size,args:= #[]}],W1,{target:=.fn (.func gf) lb.toArray,args:= #[.func (.yield (w.heap.size+1)) #[] #[]]},W1,gf,
    #[.func (.yield (w.heap.size+1)) #[] #[]]++lb.toArray,W1,?_,?_,λ_ _=>trivial,?_,(λh=>by cases h),?_⟩
  . rw[<-hW1];exact run_enterLoop_outer _ _ _ _ _
  . rw[ha.eval]
    simp only[resolve,hg,Deferred.ofValue];simp[evF]
  . simp[invoke,he.run]
  have amL:=aiF (w.heap.size+1) w.heap.size (rec_ .ready) recj W1 H1 (λpre x Fr W mF HW=>?_)
  . have e:(#[.func (.yield (w.heap.size+1)) #[] #[]]++lb.toArray:Array Value)=(Value.func (.yield (w.heap.size+1)) #[] #[]::lb).toArray:=sM
    rw[e];refine uJ none (Calls.mono amL λen W3 hr=>?_);cases en with
    | returned v=>
      rcases hr with hr | ⟨pre,x,mF,hr⟩
      . have hl:=Sep.obj hr At0
        refine⟨none,_,run_endLoop hl sM,?_⟩;refine⟨⟨σ.get,{target:=.collected w.heap.size,args:= #[]}::σ.ds⟩,⟨ha.size,?_,ha.get⟩,Zx w.heap.size _ ?_⟩
        . show [_]++a.defers=_
          rw[ha.defers];rfl
        exact(Sep.XZ hr).eF
      have hl:=Sep.obj hr At0;refine⟨some .ret,_,run_endLoop hl sM,?_⟩;refine wpIn_ret ⟨⟨σ.get,{target:=.collected w.heap.size,args:= #[]}::σ.ds⟩,⟨ha.size,?_,ha.get⟩,aoC w.heap.size _ pre x mF ?_⟩
      . show [_]++a.defers=_
        rw[ha.defers];rfl
      exact(Sep.XZ hr).eF
    | _=>exact hr.elim

  have hl:=Sep.obj HW At0;refine⟨fn,_,assign,body,run_yield hl sM,?_⟩;refine roundIn_of_wpIn (F:=fen none) trivial ?_;have hb:=aiE (w.heap.size+1) w.heap.size (rec_ .ready) (rec_ .busy) pre x Fr W mF HW
  have ha':Rep n (upd ⟨σ.get,[]⟩ p (enc x)) {tmps:=((#[p].zip [enc x].toArray).foldl (λtmps (t,a)=>tmps.setIfInBounds t a) a.tmps),defers:=[]}:=by
    have h0:Rep n ⟨σ.get,[]⟩ {tmps:=a.tmps,defers:=[]}:=⟨ha.size,rfl,ha.get⟩;have h1:=h0.put (zbc hp) (enc x);simpa[Act.put]using h1
  refine Go.wpIn_mono (hb _ ha') λen a1 W1' ⟨τ,hτ,hq⟩=>?_;cases en with
  | normal=>
    obtain⟨ex,HW1,hB⟩:=hq;have hl1:=Sep.obj HW1 At0;refine⟨_,run_beginRound hl1 rfl,?_⟩;refine Go.wpIn_mono (hB _ (Sep.XZ HW1) a1 hτ) λen a2 W2 ⟨τ2,hτ2,tC⟩=>?_;cases en with
    | normal=>
      have hl2:=Sep.obj (show Sep w0 S _ W2 from tC) At0;exact⟨_,_,run_endRound none hl2,true,rfl,by show ite (true=true) _ _;rw[zac rfl];exact Sep.XZ tC⟩
    | ret=>
      have hl2:=Sep.obj (show Sep w0 S _ W2 from tC) At0;exact⟨_,_,run_endRound (some .ret) hl2,false,rfl,by show ite (false=true) _ _;rw[zab dC];exact Sep.XZ tC⟩
    | _=>exact tC.elim
  | _=>exact hq.elim
/-! Results in cells,behind ranges. -/
theorem vS {fn:Func} {tmps:Array Value} {R:Ending->Wd->Prop}: ∀(ds:List Deferred) (w:Wd),Goes ds w (λw'=>∃v,(results fn tmps).run P w'=.ok v w'/\R (.returned v) w')->LeavesInM (fen none) 0 P fn tmps R ds .returning w
 | [],w,⟨v,hr,h⟩=>⟨v,hr,h⟩
 | d::ds,w,⟨D,ht,hh,hg⟩=>⟨(λe=>by cases e),.inl ⟨D,_,ht,run_takeDeferred hh,vS ds _ hg⟩⟩
theorem goes_mono {R R':Wd->Prop} (h: ∀w,R w->R' w): ∀{ds:List Deferred} {w:Wd},Goes ds w R->Goes ds w R'
 | [],_,hg=>h _ hg
 | _::_,_,⟨D,ht,hh,hg⟩=>⟨D,ht,hh,goes_mono h hg⟩
def alV (P:Program) (l:List ResultVar) (R:Value->Wd->Prop):Post:=λe σ w=>match e with
 | .normal | .ret=>Goes σ.ds w λw'=>∃vs,uR P σ w' l vs/\R (fH vs) w'
 | _=>False
theorem Jp {l:List ResultVar} {R:Value->Wd->Prop} (h: ∃vs,uR P σ w l vs/\R (fH vs) w) (hd:σ.ds=[]:=by exact rfl):alV P l R .ret σ w:=by
 show Goes σ.ds w _
 rw[hd];exact h
theorem Aa {l:List ResultVar} {R:Value->Wd->Prop} {D:Nat} (H:Sep w0 S rs w) (hat:At rs (Mw.obj D (.deferred (some []))) put) (hR: ∀w',Sep w0 S (put (Mw.obj D (.deferred none))) w'->∃vs,uR P σ w' l vs/\R (fH vs) w')
    (hd:σ.ds=[{target:=.collected D,args:= #[]}]:=by exact rfl):alV P l R .ret σ w:=by
  show Goes σ.ds w _
  rw[hd];have hD:=H.obj hat;have bX:=mU hD;exact⟨D,rfl,hD,hR _ (H.setObj hat ⟨rfl,rfl,rfl,sM,λk _ hS=>by simp only;rw[zes (λe=>hS e.symm)]⟩ (by simp[bX]))⟩
theorem af3 {f:FuncId} {fn:Func} {c:Code} {R:Value->Wd->Prop} {n:Nat} {l:List ResultVar} {a0:Value}
    (hf:P.funcs[f]? =some fn) (hb:fn.body=some c) (hn:fn.ntmps=n) (hl:fn.results=l.toArray) (hk:Nat.ble 1 n=true)
    (h:FW P none n c (alV P l R) (upd und 0 a0) w):aN P f [a0] w R:=by
  have qQ:1<=n:=zbc hk;refine(callsIn_wide (n:=0)).1 (callsIn_of_wp_marks (F:=fen none) hf hb trivial (Go.wpIn_mono (h _ ⟨?_,rfl,λi=>?_⟩) ?_))
  . simp[hn];omega
  . have e:upd und 0 a0=CU 0 [a0]:=rfl
    rw[e,zZ];simp only[zak,if_true,zfk];simp only[zbm,zee];rw[zfl]
    split
    . simp
    rename_i hge;simp at hge;rw[zcs (by simp;omega)];rw[zef]
    split<;>rfl
  rintro e a' w' ⟨s,hs,hq⟩;cases e with
  | normal=>
    show LeavesInM _ _ _ _ _ _ _ _ _
    rw[hs.defers];exact vS _ _ (goes_mono (λw2 ⟨vs,h1,h2⟩=>⟨_,xD hs.get hl h1,h2⟩) hq)
  | ret=>
    show LeavesInM _ _ _ _ _ _ _ _ _
    rw[hs.defers];exact vS _ _ (goes_mono (λw2 ⟨vs,h1,h2⟩=>⟨_,xD hs.get hl h1,h2⟩) hq)
  | _=>exact hq.elim
end
end Go.Mw
namespace Go.Proofs.YtkfpleidaoaonaaGreatDoor
open Go Go.Mw Go.Lib Tryz
set_option maxRecDepth 4000
attribute [local irreducible] FW FL FG FGn gu gy dh gH Qfn Gives
theorem Ab {l:L8} (h:Lib.indexByte l 32= -1):d9 32 l=[l]:=
 GL λc hc e=>by
  obtain⟨k,hk⟩:=zdh hc;exact Lib.indexByte_none h k (by rw[hk,e])
theorem Kv {l:L8} {o:Nat} (h:Lib.indexByte l 32=o):o<l.length/\d9 32 l=l.take o::d9 32 (l.drop (o+1)):=by
 obtain⟨h1,h2⟩:=Lib.indexByte_some h;have bX:=(zbd.1 h1).1
 have e:l=l.take o++32::l.drop (o+1):=by
  have e1:l.drop o=32::l.drop (o+1):=by
   rw[zbq bX]
   congr 1
   rw[zaa bX]at h1;injection h1
  conv=>lhs;rw[<-zbx o l,e1]
 refine⟨bX,?_⟩
 have:=Lb (sep:=32) (w:=l.take o) (l:=l.drop (o+1)) λc hc e=>by
  obtain⟨k,hk⟩:=zdh hc;rw[zcn]at hk
  split at hk
  .exact h2 k oM (by rw[hk,e])
  cases hk
 rw[<-this,<-e]
section
variable {w:Wd}
theorem Xf (l:L8):aN prog 304 [str l,str [32]] w λv w'=>v=I (Lib.indexByte l 32)/\w=w':=
 nD (Tryz.strings_Index_one ⟨l.toArray⟩ 32 w)
theorem aah {S:NP} {w0:Wd} {J:List (L8)->HP} {L:List (L8)->L8->HP} {l D:Nat} {ro rj:Obj} {bP bS bV:Nat} {s:L8} (hl:s.length<=1000000)
    (HW:Sep w0 S [obj l ro,obj D (.deferred (some [])),J [],blk bP [str [32]] 9,blk bS [str s] 9,blk bV [I 0] 3] w)
    (hy: ∀(pre:List (L8)) (x:L8) (Fr:List HP) (W:Wd),pre++[x]<+:d9 32 s->Sep w0 S (obj l ro::obj D (.deferred (some []))::J pre::Fr) W->VK prog l [str x] W λb W'=>if b=true then Sep w0 S (obj l ro::obj D (.deferred (some []))::J (pre++[x])::Fr) W' else Sep w0 S [obj l rj,obj D (.deferred (some [])),L pre x] W'):
    aN prog 346 [.func (.yield l) #[] #[],aA bP,aA bS,aA bV] w λ_ W'=>Sep w0 S [obj l ro,obj D (.deferred (some [])),J (d9 32 s)] W'\/∃pre x,pre++[x]<+:d9 32 s/\Sep w0 S [obj l rj,obj D (.deferred (some [])),L pre x] W':=by
  have H:=HW;refine CV func346 rfl rfl rfl rfl ?_;refine Za3 ?_;refine Qn (Cp rfl (λZy=>?_) (λZy=>?_))
  . exact zat Zy dC
  refine Zb0 ?_;refine aP (λ_:List (L8)×L8=>[(0,.func (.yield l) #[] #[]),(1,aA bP),(2,aA bS),(3,aA bV)]) (λx w'=>(x.1++d9 32 x.2=d9 32 s/\x.2.length<=s.length)/\Sep w0 S [obj l ro,obj D (.deferred (some [])),J x.1,blk bP [str [32]] 9,blk bS [str x.2] 9,blk bV [I 0] 3] w') (λx _=>x.2.length) ([],s) tR ⟨⟨rfl,zbf _⟩,H⟩ (λx τ w7 hI=>?_);obtain⟨pre,t⟩:=x;obtain⟨⟨Cm,Qk⟩,H7⟩:=hI;dsimp only at Cm Qk H7
  try simp only[dA,like,bB,bY]
  refine Zb2 ?_;refine gX (Xf t) (h:=?_);refine Za3 ?_;refine Qn (Cp rfl (λIa=>?_) (λIa=>?_))
  . have akD:Lib.indexByte t 32= -1:=by have h1:=Ia;have h2:=Lib.indexByte_ge t 32;omega
    have mF:pre++[t]<+:d9 32 s:=by rw[<-Cm,Ab akD];exact List.prefix_refl _
    have lQ:pre++[t]=d9 32 s:=by rw[<-Cm,Ab akD]
    refine Zb2 ?_;refine EM rfl (hy pre t _ _ mF H7) rfl rfl (λb8 wa Wh=>?_);refine Zb0 ?_;cases b8 with
    | true=>rw[zac rfl]at Wh;rw[<-lQ];exact .inl (Wh.firsts (l:=[_,_,_]))
    | false=>rw[zab dC]at Wh;exact .inr ⟨pre,t,mF,Wh⟩
  obtain⟨o,ho⟩: ∃o:Nat,Lib.indexByte t 32=o:=⟨(Lib.indexByte t 32).toNat,by have h1:=Ia;omega⟩;obtain⟨aq7,hot⟩:=Kv ho
  have mF:pre++[t.take o]<+:d9 32 s:=by
    rw[<-Cm,hot];exact⟨d9 32 (t.drop (o+1)),sM⟩
  rw[ho];refine Zb3 ?_;refine Vc (o:Int) ?_;refine Vv (Gives.lV (i:=o) rfl rfl oM) (Zb3 ?_);refine EM rfl (hy pre (t.take o) _ _ mF H7) rfl rfl (λb8 wb Wh=>?_);refine Za1 ?_;refine Qn (Cd rfl (λIb=>?_) (λIb=>?_))
  . have hb:b8=false:=by have h1:=Ib;revert h1;cases b8<;>simp
    rw[hb,zab dC]at Wh;refine Zb0 ?_;exact .inr ⟨pre,t.take o,mF,Wh⟩
  have hb:b8=true:=by have h1:=Ib;revert h1;cases b8<;>simp
  rw[hb,zac rfl]at Wh;have Ha:=Wh;refine Zb4 ?_;refine Vv (Gives.M5 (c:=((o+1:Nat):Int)) rfl rfl (by show(o:Int)+1=_;omega) oM) (Vv (Gives.sG (i:=o+1) rfl rfl oM) ?_);refine bM Ha (h:=λwc Hb=>?_);refine Zb0 ?_;exact ak (pre++[t.take o],t.drop (o+1)) tR ⟨⟨by dsimp only;rw[<-Cm,hot];simp,by dsimp only;rw[zbu];omega⟩,Hb⟩ (by dsimp only;rw[zbu];omega)
end
end Go.Proofs.YtkfpleidaoaonaaGreatDoor
namespace Go.Mw
open Go.RowKit
theorem Jq {P:Program} {T:Td} [h1:OneCell P T] {w:Wd} {b:Nat} {v:Value} {E:Td} (hb:w.heap[b]? =some (.cells [v].toArray E (0,0))):(loadVar T ⟨b,0,none⟩).run P w=.ok v w:=by
 have hc:w.cell? ⟨b,0,none⟩=some v:=mY hb 0;simp[loadVar,h1.agg,hc]
theorem Xh {P:Program} {T U:Td} [OneCell P T] [OneCell P U] {σ:St} {w:Wd} {a b x y:Nat} {v u:Value} {E F:Td} (hx:w.heap[x]? =some (.cells [v].toArray E (0,0))) (hy:w.heap[y]? =some (.cells [u].toArray F (0,0)))
    (ha:σ a=.pointer (some ⟨x,0,none⟩):=by exact rfl) (hb:σ b=.pointer (some ⟨y,0,none⟩):=by exact rfl):uR P σ w [.cell a T,.cell b U] [v,u]:=
  ⟨v,[u],⟨x,0,none⟩,rfl,ha,Jq hx,u,[],⟨y,0,none⟩,rfl,hb,Jq hy,rfl⟩
end Go.Mw
namespace Go.Proofs.YtkfpleidaoaonaaGreatDoor
open Go Go.Mw Go.Lib
set_option maxRecDepth 4000
attribute [local irreducible] FW FL FG FGn gu gy dh gH Qfn Gives
theorem Xi: ∀(l:L8),∀w∈d9 32 l,w.length<=l.length
 | [],w,h=>by
  have :w=[]:=by simpa[d9]using h
  rw[this];simp
 | c::l,w,h=>by
  have ih:=Xi l
  by_cases hc:c=32
  .rw[d9,zac hc]at h
   rcases zap.1 h with rfl | h
   .simp
   have:=ih w h;simp only[zal];omega
  obtain⟨w1,ws,e1,e2⟩:=sJ (sep:=32) (l:=l) hc;rw[e2]at h;rw[e1]at ih
  rcases zap.1 h with rfl | h
  .have:=ih w1 sM
   simp only[zal];omega
  have:=ih w (zai _ h);simp only[zal];omega
theorem zh (w:L8):fits (gJ w).n:=by
 unfold gJ fits
 split
 .dsimp only;omega
 split
 .rename_i k hk
  have:=zec hk;simp at this;dsimp only;omega
 repeat' split
 all_goals first | exact MC _ | (dsimp only;omega)
theorem LQ: ∀{ws:List (L8)},(∀y∈ws,vG (gJ y) y=true)->readAll ws=some (ws.map gJ)
 | [],_=>rfl
 | w::ws,h=>by
  rw[readAll,zac (h w sM),LQ λy hy=>h y (zai _ hy)];rfl
theorem LU: ∀{ws:List (L8)} {x:L8},x∈ws->vG (gJ x) x=false->readAll ws=none
 | w::ws,x,hm,hb=>by
  rw[readAll]
  split
  .rename_i hg
   rcases zap.1 hm with rfl | hm
   .rw[hb]at hg;cases hg
   rw[LU hm hb];rfl
  rfl
def af4 (b:Nat) (l:List bJ):HP:=exH λv=>star (blk b [v] 23) (bW 92 3 aD v l)
def alW (b2 b3 b4:Nat) (pre:List (L8)):HP:=lC [jI (∀y∈pre,vG (gJ y) y=true),blk b2 [.slice none 0 0] 23,blk b3 [I 0] 29,af4 b4 (pre.map gJ)]
def aqi (b2 b3:Nat) (_:List (L8)) (x:L8):HP:=lC [jI (vG (gJ x) x=false),blk b2 [.slice none 0 0] 23,blk b3 [I 4] 29]
section
variable {w:Wd}
theorem Xj (s:L8):aN Tryz.prog 305 [str s,str [32],I 0] w λv w'=>∃x:Nat×Nat×Nat,v=.func (.func 346) #[] #[aA x.1,aA x.2.1,aA x.2.2]/\True/\Turn noB (star (blk x.1 [str [32]] 9) (star (blk x.2.1 [str s] 9) (blk x.2.2 [I 0] 3))) w w':=by
 have H:=Sep.aL w;refine tH Tryz.func305 rfl rfl rfl rfl ?_;refine Sr (dz H (h:=λb1 w2 H2 k1=>?_));refine dz H2 (h:=λb3 w4 H4 k3=>?_);refine dz H4 (h:=λb5 w6 H6 k5=>?_);refine Zb1 ?_;refine Vv (Gives.makeFunc (fs:=[]) (us:=[]) (cs:=[.tmp 4,.tmp 3,.tmp 5]) rfl rfl) (Zb1 ?_);exact⟨(b3,b1,b5),rfl,trivial,(Sep.bI (Sep.aJ (Sep.bI H6.bF))).turn⟩
theorem Xk (s:L8):aN Tryz.prog 228 [str s,str [32]] w λv w'=>∃x:Nat×Nat×Nat,v=.func (.func 346) #[] #[aA x.1,aA x.2.1,aA x.2.2]/\True/\Turn noB (star (blk x.1 [str [32]] 9) (star (blk x.2.1 [str s] 9) (blk x.2.2 [I 0] 3))) w w':=by
 have H:=Sep.aL w;refine dS Tryz.func228 rfl rfl rfl rfl ?_;refine Zb3 ?_;refine aS (Xj s) rfl rfl (λv' w5 hv=>?_);obtain⟨x,rfl,_,eB,F1,hq,jw⟩:=hv;have H5:=H.new eB hq (λb hb=>(jw b hb).resolve_left id);refine Zb1 ?_;exact⟨x,rfl,trivial,H5.turn⟩
theorem Xl (l:L8):aN Tryz.prog 227 [str l,str [32]] w λv w'=>v=I ((l.count 32:Nat):Int)/\w=w':=
 nD (Tryz.strings_Count_one ⟨l.toArray⟩ 32 w)
theorem adx (s:L8) (hl:s.length<=1000000\/1048576<s.length) (Zq:s.length<=1000000000) (hT:fA w):aN Tryz.prog 172 [str s] w λv w'=>∃x,v=.tuple #[x,I (fQ s).2]/\True/\Turn noB (bW 92 3 aD x (fQ s).1) w w':=by
  have H:=Sep.aL w;obtain⟨res,ay⟩: ∃res,res=fQ s:=⟨_,rfl⟩;rw[<-ay];unfold fQ at ay;refine af3 Tryz.func172 rfl rfl rfl rfl ?_;refine Sr (aW H (h:=λb1 w2 H2 k1=>?_));refine aW H2 (h:=λb3 w4 H4 k3=>?_);refine Zb4 ?_;refine aC (t:=10) rfl (λZt=>?_) (λZt=>?_)
  . rw[zac (.inl oM)]at ay
    refine Zb1 ?_;refine bM H4 (h:=λwa Ha=>?_);refine bM Ha (h:=λwb Hb=>?_);refine Qn (Rs (Jp (h:=?_)));exact⟨[.slice none 0 0,I 5],Xh (Hb.obj At1) (Hb.obj At0),.slice none 0 0,by rw[ay];rfl,trivial,by rw[ay];exact(Sep.lZ Hb 92 3 aD).first.turn⟩
  have qQ:s.length<=1000000:=oM;have V8:=VU s 32;refine Zb1 ?_;refine gX (Xl s) (h:=?_);refine Za2 ?_;refine Qn (Cp rfl (λIa=>?_) (λIa=>?_))
  . rw[zac (.inr oM)]at ay
    refine Sr (bM H4 (h:=λwc Hc=>?_));refine bM Hc (h:=λwd Hd=>?_);refine Qn (Rs (Jp (h:=?_)));exact⟨[.slice none 0 0,I 5],Xh (Hd.obj At1) (Hd.obj At0),.slice none 0 0,by rw[ay];rfl,trivial,by rw[ay];exact(Sep.lZ Hd 92 3 aD).first.turn⟩
  have Ib:s.count 32<64:=oM;rw[zab oM]at ay;refine Za2 ?_;refine Qn (Cp rfl (λIc=>?_) (λIc=>?_))
  . rw[zac Ic]at ay
    refine Sr (bM H4 (h:=λwe He=>?_));refine bM He (h:=λwf Hf=>?_);refine Qn (Rs (Jp (h:=?_)));exact⟨[.slice none 0 0,I 0],Xh (Hf.obj At1) (Hf.obj At0),.slice none 0 0,by rw[ay];rfl,trivial,by rw[ay];exact(Sep.lZ Hf 92 3 aD).first.turn⟩
  rw[zab Ic]at ay;refine Zb0 ?_;refine aW H4 (h:=λb4 wg Hg ka=>?_);refine Zb1 ?_;refine aS (Xk s) rfl rfl (λv' wh hv=>?_);obtain⟨⟨bP,bS,bV⟩,rfl,_,eB,F1,hq,jw⟩:=hv;dsimp only at hq;have Hh:=Hg.new eB hq (λb hb=>(jw b hb).resolve_left id);refine Zb0 ?_;have hcs:=zC 32 s
  have HJ:Mw.Sep w noB (alW b1 b3 b4 []::[blk bP [str [32]] 9,blk bS [str s] 9,blk bV [I 0] 3]) wh:=by
    have h1:=(Sep.lZ Hh 92 3 aD).bF;have h4:=Sep.uW (p:=λv=>star (blk b4 [v] 23) (bW 92 3 aD v [])) (.slice none 0 0) (Sep.bI h1);have h7:=Sep.bundle (l:=[jI (∀y∈([]:List (L8)),vG (gJ y) y=true),_,_,_]) (rs:=[_]) (Sep.jT (λy hy=>zat hy zaj) h4.bF.bN);exact h7.aJ.dG.aJ.dG.bN.bN.ald
  refine Rt (gf:=346) (lb:=[aA bP,aA bS,aA bV]) str (d9 32 s) (alW b1 b3 b4) (aqi b1 b3) _ HJ rfl rfl ?_ ?_ ?_ ?_
  . intro l D ro rb pre x Fr W mF HW
    have hxm:x∈d9 32 s:=mF.subset (zch pre (zay.2 rfl));have hxl:x.length<=1000000:=zcp (Xi s x hxm) qQ;have Zz:pre.length+1<=64:=by have:=mF.length_le;rw[zad,zan]at this;omega
    have yV:(pre.map gJ).length=pre.length:=zae _;have hmp:(pre++[x]).map gJ=pre.map gJ++[gJ x]:=by rw[zam];rfl
    refine Za1 ?_;refine zK (tQ ?_);refine⟨[],HW,λWB HB=>?_⟩;have HB2:Mw.Sep w noB (obj l rb::obj D (.deferred (some []))::alW b1 b3 b4 pre::Fr) WB:=HB;replace HB2:=(HB2.bF).parts;obtain⟨tq,HB3⟩:=HB2.tJ;obtain⟨v4,HB4⟩:=(Sep.bF HB3).ex0;replace HB:=HB4.dG;obtain⟨B4,cb,rfl,Ul,hB4⟩:=Sep.eO HB At1;refine Zb1 ?_;refine aF HB (adw x hxl (hT.keep HB.kept)) (h:=λwi Hi kb=>?_);refine aW Hi (h:=λb6 wj Hj kc=>?_);refine au Hj (h:=λwk Hk=>?_);refine Zb1 ?_;refine aF Hk (abt (gJ x) (zh x) (hT.keep Hk.kept).utf) (h:=λwl Hl kd=>?_);refine Zb2 ?_;refine iN (t:=25) rfl (λSa=>?_) (λSa=>?_)
    . have sN:vG (gJ x) x=false:=by
        have h1:=Sa;unfold vG
        revert h1
        cases jM (gJ x)<;>simp
      refine Zb1 ?_;refine bM Hl (h:=λwm Hm=>?_);refine bM Hm (h:=λwn Hn=>?_);refine Qn (Rs (dF (BZ ?_)));exact(Sep.bundle (l:=[jI (vG (gJ x) x=false),_,_]) (rs:=[_,_]) (Sep.jT sN ((Hn.mM.mM.mM.mM).firsts (l:=[_,_,_,_])))).JR
    have Zq:jM (gJ x)=true:=by have h1:=Sa;revert h1;cases jM (gJ x)<;>simp
    refine Zb1 ?_;refine aF Hl (WS (gJ x) Zq (zh x) (hT.keep Hl.kept)) (h:=λwo Ho ke=>?_);refine Za3 ?_;refine Qn (Cp rfl (λId=>?_) (λId=>?_))
    . have sN:vG (gJ x) x=false:=by
        unfold vG;rw[Zq,zar (show ¬iY (gJ x)=x from Id)];rfl
      refine Sr (bM Ho (h:=λwp Hp=>?_));refine bM Hp (h:=λwq Hq=>?_);refine Qn (Rs (dF (BZ ?_)));exact(Sep.bundle (l:=[jI (vG (gJ x) x=false),_,_]) (rs:=[_,_]) (Sep.jT sN ((Hq.mM.mM.mM.mM).firsts (l:=[_,_,_,_])))).JR
    have hgx:vG (gJ x) x=true:=La.2 ⟨Zq,zbt.1 Id⟩;refine Zb2 ?_;refine Bs Ho ([gJ x].flatMap aD) (λbs wr Hr kf=>?_);refine gP Hr (news:=[gJ x]) At2 (by rw[yV];unfold maxLen;simp;omega) (by rw[yV];show(pre.length+1)*32<=_;omega) (by intro u hu;simp only[zbg,zep,aD,zci,zap,zaj,or_false]at hu;rcases hu with rfl | rfl | rfl<;>rfl) (h:=?_);intro v2 ws Hs;rw[<-hmp]at Hs;obtain⟨B2,c2,rfl,hc2,hB2⟩:=Sep.eO Hs At2;refine bM Hs (h:=λwt Ht=>?_);refine zK (y9 (FR ?_));have h2:=Sep.uW (p:=λv=>star (blk b4 [v] 23) (bW 92 3 aD v ((pre++[x]).map gJ))) _ (Sep.bI Ht.eF)
    have hg2: ∀y∈pre++[x],vG (gJ y) y=true:=by
      intro y hy
      rcases zbh.1 hy with h | h
      . exact tq y h
      rw[zay.1 h];exact hgx
    exact(Sep.bundle (l:=[jI (∀y∈pre++[x],vG (gJ y) y=true),_,_,_]) (Sep.jT hg2 h2.JR)).JR
  . intro l D ro rj W HW hy
    exact aah qQ HW hy
  rotate_left 1
  . intro D W pre x mF HD
    obtain⟨sN,HD2⟩:=((HD.aJ).parts).tJ;have hr:=LU (mF.subset (zch pre (zay.2 rfl))) sN;rw[hr]at ay;exact dF (fG (Aa HD2 At2 (λw1 H1=>⟨[.slice none 0 0,I 4],Xh (H1.obj At0) (H1.obj At1),.slice none 0 0,by rw[ay];rfl,trivial,by rw[ay];exact(Sep.lZ H1 92 3 aD).first.turn⟩)))
  intro D wu Hu;have Hu:=(Hu.aJ).parts;obtain⟨tq,Hu⟩:=Hu.tJ;obtain⟨v4,Hu⟩:=(Sep.bF Hu).ex0;have Hu:=Hu.dG;obtain⟨B4,cb,rfl,Ul,hB4⟩:=Sep.eO Hu At1;rw[LQ tq]at ay;refine Zb1 ?_;refine bM Hu (h:=λwv Hv=>?_);refine bM Hv (h:=λww Hw=>?_);refine Qn (fu (Aa Hw At4 (hR:=λwx Hx=>?_)));exact⟨[_,I 0],Xh (Hx.obj At2) (Hx.obj At3),_,by rw[ay];rfl,trivial,by rw[ay];exact Hx.aJ.first.turn⟩
end
end Go.Proofs.YtkfpleidaoaonaaGreatDoor
namespace Go.Proofs.YtkfpleidaoaonaaGreatDoor
open Go Go.Lib
set_option maxRecDepth 4000
def af5:Nat->Nat->L8
 | 0,_=>[]
 | f+1,u=>if u<10 then [UInt8.ofNat (48+u)]else af5 f (u/10)++[UInt8.ofNat (48+u%10)]
theorem UN: ∀(f u:Nat),u<10^f->0<f->af5 f u=decDigits u
 | 0,u,_,h0=>zat h0 dC
 | f+1,u,h,_=>by
  rw[af5,decDigits]
  by_cases hu:u<10
  .rw[zac hu,dif_pos hu]
  rw[zab hu,dif_neg hu];have h1:u/10<10^f:=by rw[Nat.pow_succ]at h;omega
  have h2:0<f:=by
   cases f with
   | zero=>simp at h1;omega
   | succ f=>exact Nat.succ_pos f
  rw[UN f (u/10) h1 h2]
def acd (n:Int):L8:=if n<0 then 45::af5 20 n.natAbs else af5 20 n.toNat
theorem af6 {n:Int} (h:fits n):acd n=itoa n:=by
 unfold fits at h;unfold acd itoa;rw[UN 20 n.natAbs oM dC,UN 20 n.toNat oM dC]
def af7 (x:bJ):L8:=
 if x.kind=1 then 35::acd x.n
 else if x.kind=2 then acd x.n
 else if x.kind=3 then(if x.n=1 then [116,114,117,101]else [102,97,108,115,101])
 else if x.kind=4 then TB x.s
 else if x.kind=5 then 120::AX x.s
 else if x.kind=6 then qL x.n
 else nX.getD (x.kind-7).toNat []
theorem af8 {x:bJ} (h:fits x.n):af7 x=iY x:=by
 unfold af7 iY;rw[af6 h]
def ace:List (L8)->Option (List bJ)
 | []=>some []
 | w::l=>if(jM (gJ w)&&decide (af7 (gJ w)=w))=true then(ace l).map (gJ w:: ·)else none
theorem Xm: ∀l,ace l=readAll l
 | []=>rfl
 | w::l=>by
  rw[ace,readAll,af8 (zh w),Xm l];rfl
def af9 (s:L8):List bJ×Int:=
 if 1048576<s.length\/64<=s.count 32 then([],5)else if s=[]then([],0)else match ace (d9 32 s)with
  | some l=>(l,0)
  | none=>([],4)
theorem Ru (s:L8):af9 s=fQ s:=by
 unfold af9 fQ;rw[Xm];cases readAll (d9 32 s)<;>rfl
open Go.Mw
theorem N8 (s:L8): ∀x∈(fQ s).1,fits x.n:=by
 have key: ∀(ws:List (L8)) (l:List bJ),readAll ws=some l->∀x∈l,fits x.n:=by
  intro ws
  induction ws with
  | nil=>intro l h x hx;injection h with h;subst h;cases hx
  | cons w ws ih=>
   intro l h x hx;rw[readAll]at h
   split at h
   .obtain⟨l',h1,h2⟩:=zbb.1 h
    subst h2
    rcases zap.1 hx with rfl | hx
    .exact zh w
    exact ih l' h1 x hx
   cases h
 intro x hx;unfold fQ at hx
 split at hx
 .cases hx
 split at hx
 .cases hx
 split at hx
 .rename_i l h;exact key _ l h x hx
 cases hx
section
variable {w:Wd}
end
section
variable {w:Wd}
end
end Go.Proofs.YtkfpleidaoaonaaGreatDoor
namespace Go.Mw
open Go.RowKit
section
variable {P:Program} {r:Option Nat} {n:Nat} {ops:AO} {Q:Post} {rest:LO} {σ:St} {w w0:Wd} {S:NP} {rs:List HP} {put:HP->List HP} {ty:Td} {pos:String} {after:Array Edge}
variable {α:Type} {enc:α->LV} {k e c:Nat} {l:List α} {A:OA}
theorem Xn (hk: ∀x,(enc x).length=k): ∀{l:List α} {i f:Nat} {a a':α} {v:Value},l[i]? =some a->f<k->enc a'=(enc a).set f v->(l.flatMap enc).set (i*k+f) v=(l.set i a').flatMap enc
 | [],_,_,_,_,_,h,_,_=>by simp at h
 | x::l,0,f,a,a',v,h,hf,he=>by
  simp only[zbp,Option.some.injEq]at h;subst h;rw[zbg,Nat.zero_mul,zds,List.set_append_left _ _ (by rw[hk];exact hf),zeg,zbg,he]
 | x::l,i+1,f,a,a',v,h,hf,he=>by
  simp only[zby]at h;rw[zbg,zfm _ _ (by rw[hk,zea];omega),hk,zea,show i*k+k+f-k=i*k+f from oM,Xn hk h hf he,zgf,zbg]
theorem LW {x y:Od} {T:Td} [h1:OneCell P T] [hk:lY enc k] {i f:Nat} {a:α} (a':α) {v:Value} {m:Nat} (hm:m=l.length) (H:Sep w0 S rs w) (hat:At rs (bW e k enc (.slice A m c) l) put) (hi:l[i]? =some a) (hf:f<k) (he:enc a'=(enc a).set f v) (hx:evF σ x=adr A (i*k+f)) (hy:evF σ y=v) (hv:v.oneCell'=true):
    ∃w',Qy P (evF σ) (.store T x y) ty w w'/\Sep w0 S (put (bW e k enc (.slice A m c) (l.set i a'))) w':=by
  subst hm;have bX:i<l.length:=(zbd.1 hi).1;obtain⟨F,hp,hS,nA⟩:=H.focus hat;have H0:=Sep.dZ hp;obtain⟨g,c',rest,hvv,hlen,hxl,qQ,Zq,H1⟩:=H0.acJ At0 oM;injection hvv with hA _ hc
  subst hA;subst hc;have hb:=H1.obj At0;have Fy:=mJ hk.len l;have ZA:(i+1)*k<=l.length*k:=Nat.mul_le_mul_right k bX;rw[zea]at ZA;have aoF:i*k+f<(l.flatMap enc++rest).length:=by rw[zad,Fy];omega
  obtain⟨eB,MO⟩:=BH (v:=v) hb aoF;have H2:=H1.setObj (At0 (p:=blk g (l.flatMap enc++rest) e) (l:=[])) eB MO;rw[aeJ (by rw[Fy];omega),Xn hk.len hi hf he]at H2;have H3:Sep w F [blk g ((l.set i a').flatMap enc++rest) e] (w.setCell ⟨g,i*k+f,none⟩ v):=H2;have abR:=mJ hk.len (l.set i a');rw[zgh]at abR;have H4:=H3.acK (n:=l.length) (c:=c) At0 (by rw[zad,abR];rw[zad,Fy]at hlen;exact hlen) abR qQ Zq;refine⟨w.setCell ⟨g,i*k+f,none⟩ v,λ_ _ _ _=>?_,?_⟩
  . have gQ:(store (⟨g,i*k+f,none⟩:Addr) v).run P w=.ok () (w.setCell ⟨g,i*k+f,none⟩ v):=by
      rw[run_store P w _ v _ hv,mY hb,zaa aoF];simp[World.frozen?,hb]
    have hcs:v.cells= #[v]:=by cases v<;>first | rfl | cases hv
    have Kk:evF σ x=.pointer (some ⟨g,i*k+f,none⟩):=by rw[hx];show Value.pointer (some (Addr.add ⟨g,0,none⟩ (i*k+f)))=_;rw[Addr.add_lit,zds]
    simp[execOp,Kk,hy,Instr.storeAt,Instr.sureAddr,storeVar,h1.size,hcs,storeCells,gQ,Addr.add_zero']
  obtain⟨h5,F5,h6,h7⟩:=H4;refine nA _ F5 _ h5 ?_ λb hb=>h7 b hb;have h8:=EL.1 h6;show(CJ e k (.slice (some ⟨g,0,none⟩) l.length c) (l.set i a').length ((l.set i a').flatMap enc)).ok F5 _
  rw[zgh];exact h8
theorem Rv {x y:Od} {T:Td} [h1:OneCell P T] [hk:lY enc k] {i f:Nat} {a:α} (a':α) {v:Value} {m:Nat} (hm:m=l.length) (H:Sep w0 S rs w) (hat:At rs (bW e k enc (.slice A m c) l) put) (hi:l[i]? =some a) (hf:f<k) (he:enc a'=(enc a).set f v) (hx:evF σ x=adr A (i*k+f)) (hy:evF σ y=v) (hv:v.oneCell'=true)
    (h: ∀w',Sep w0 S (put (bW e k enc (.slice A m c) (l.set i a'))) w'->FL P r n ops Q rest σ w'):
    FL P r n ops Q (⟨none,.store T x y,ty,pos,after,none⟩::rest) σ w:=by
  obtain⟨w',ha,hs⟩:=LW (P:=P) (ty:=ty) (T:=T) a' hm H hat hi hf he hx hy hv;exact Kt ha rfl (h w' hs)
theorem Gives.ady {ρ:Od->Value} {x y:Od} {t e:Td} [ht:dD P t e] {bytes:Nat} [hc:Cells P e k bytes] {m i:Nat} {j:IntKind} (hm:m=l.length) (hx:ρ x=.slice A m c) (hy:ρ y=.int j i) (hr:Rd w0 A enc k l) (bX:i<l.length):Gives P ρ (.indexAddr t x y) ty w (adr A (i*k)) w:=by
 subst hm;exact Gives.mK hx hy hr bX
theorem rV {m:Nat} (hm:m=l.length) (H:Sep w0 S rs w) (hat:At rs (bW e k enc (.slice A m c) l) put):Rd w A enc k l:=by
 subst hm;exact Sep.rowAt H hat
theorem Gives.C8 {ρ:Od->Value} {x y:Od} {kd:IntKind} {a b m:Int} {ts:Array Td} (hx:ρ x=.int kd a) (hy:ρ y=.int kd b) (he:Min.min a b=m):Gives P ρ (.call {callee:=.builtin .min,args:= #[x,y],argTypes:=ts}) ty w (.int kd m) w:=by subst he;exact Gives.min hx hy
end
end Go.Mw
namespace Go.Proofs.YtkfpleidaoaonaaGreatDoor
open Go Go.Mw Go.Lib
set_option maxRecDepth 4000
theorem qA (s:L8) (k:Nat):Min.min ((s.length:Nat):Int) (k:Int)=(((s.take k).length:Nat):Int):=by
 rw[zag];omega
section
variable {w:Wd}
end
end Go.Proofs.YtkfpleidaoaonaaGreatDoor
namespace Go.Proofs.YtkfpleidaoaonaaGreatDoor
open Go Go.Mw Go.Lib
set_option maxRecDepth 4000
section
variable {w:Wd}
end
section
variable {w:Wd}
end
end Go.Proofs.YtkfpleidaoaonaaGreatDoor
