/-
 The document's cells,walked:types,and what a cell may be.
-/
import Derived.Test.YtbkjpdboaclopaaGreatDoorNd7
set_option linter.all false
set_option maxRecDepth 4000
namespace Go.Proofs.Mw
open Go.Lib Go.Proofs.Tryz
section
attribute [local irreducible] FW FL FG FGn jJ jO fC lJ Qfn Gives
def jg {a b:Bool} (h:a=true↔b=true):Value.bool a=.bool b:=zay Value.bool (zdu.2 h)
def ofC (t:bR) (c:aC):Bool:=if c.null=true then decide (t.null=true/\c.n=0/\c.s=[])else isC t.kind c
def afD (t:bR) (c:aC):gL t c=if oD t=false then 2 else if ofC t c=false then 90 else 0:=by
 unfold gL ofC
 by_cases h1:oD t=false
 .rw[zac h1,zac h1]
 rw[zaa h1,zaa h1]
 by_cases h2:c.null=true
 .rw[zac h2,zac h2]
  have e:(c=bK)=(c.n=0/\c.s=[]):=propext ⟨λh=>by rw[h];exact⟨rfl,rfl⟩,λh=>aC.ext' h2 h.1 h.2⟩;simp only[e]
  by_cases h3:t.null=true/\c.n=0/\c.s=[]
  .rw[zac h3,zaa (by simp[h3])]
  rw[zaa h3,zac (by simpa using h3)]
 rw[zaa h2,zaa h2];cases isC t.kind c<;>rfl
section
variable {w:Wd}
def Va (t:bR):Rk prog 169 [agg (aD t)] w (.bool (oD t)):=by
 have H:=Sep.aH w;refine dh func169 ?_;refine Sr (bB H (h:=λb1 _ k _=>?_));refine Sz (λS=>?_) (λS=>?_)
 .refine V5 ?_
  exact⟨jg (by unfold oD;simp;omega),k.kept⟩
 refine V2 ?_;exact⟨jg (by unfold oD;simp;omega),k.kept⟩
def anm (t:bR) (c:aC):Rk prog 265 [agg (aD t),agg (ah c)] w (.bool (ofC t c)):=by
 have H:=Sep.aH w;refine bU func265 ?_;refine Sr (bB H (h:=λb1 _ k _=>?_));refine bB k (h:=λb3 _ k _=>?_);refine O3 ?_;refine Qn (Cd rfl (λS=>?_) (λS=>?_))
 .have Mt:ofC t c=decide (t.null=true/\c.n=0/\c.s=[]):=by unfold ofC;rw[zac S]
  refine V3 ?_;refine dL (t:=9) rfl (λI=>?_) (λI=>?_)
  .refine Sz (λI=>?_) (λI=>?_)
   .refine V5 ?_
    exact⟨jg (by rw[Mt];first | (unfold isC;simp_all;done) | (simp_all;done) | (unfold isC;simp_all;omega)),k.kept⟩
   refine V2 ?_;exact⟨jg (by rw[Mt];first | (unfold isC;simp_all;done) | (simp_all;done) | (unfold isC;simp_all;omega)),k.kept⟩
  refine V4 ?_;exact⟨jg (by rw[Mt];first | (unfold isC;simp_all;done) | (simp_all;done) | (unfold isC;simp_all;omega)),k.kept⟩
 have Mt:ofC t c=isC t.kind c:=by unfold ofC;rw[zaa (by rw[S];simp)]
 refine Cz (λI=>?_) (λI=>?_)
 .refine Sz (λI=>?_) (λI=>?_)
  .refine Sz (λI=>?_) (λI=>?_)
   .refine V3 ?_
    exact⟨jg (by rw[Mt];first | (unfold isC;simp_all;done) | (simp_all;done) | (unfold isC;simp_all;omega)),k.kept⟩
   refine V6 ?_;exact⟨jg (by rw[Mt];first | (unfold isC;simp_all;done) | (simp_all;done) | (unfold isC;simp_all;omega)),k.kept⟩
  refine V2 ?_;exact⟨jg (by rw[Mt];first | (unfold isC;simp_all;done) | (simp_all;done) | (unfold isC;simp_all;omega)),k.kept⟩
 refine Cz (λI=>?_) (λI=>?_)
 .refine Sz (λI=>?_) (λI=>?_)
  .refine Sz (λI=>?_) (λI=>?_)
   .refine V5 ?_
    exact⟨jg (by rw[Mt];first | (unfold isC;simp_all;done) | (simp_all;done) | (unfold isC;simp_all;omega)),k.kept⟩
   refine V2 ?_;exact⟨jg (by rw[Mt];first | (unfold isC;simp_all;done) | (simp_all;done) | (unfold isC;simp_all;omega)),k.kept⟩
  refine V4 ?_;exact⟨jg (by rw[Mt];first | (unfold isC;simp_all;done) | (simp_all;done) | (unfold isC;simp_all;omega)),k.kept⟩
 refine Cz (λI=>?_) (λI=>?_)
 .refine V4 ?_
  exact⟨jg (by rw[Mt];first | (unfold isC;simp_all;done) | (simp_all;done) | (unfold isC;simp_all;omega)),k.kept⟩
 refine Cz (λI=>?_) (λI=>?_)
 .refine Sz (λI=>?_) (λI=>?_)
  .refine Sz (λI=>?_) (λI=>?_)
   .refine Kz (Tg c.s oM) (λ_ I _=>?_)
    refine V2 ?_;exact⟨jg (by rw[Mt];first | (unfold isC;simp_all;done) | (simp_all;done) | (unfold isC;simp_all;omega)),I.kept⟩
   refine V2 ?_;exact⟨jg (by rw[Mt];first | (unfold isC;simp_all;done) | (simp_all;done) | (unfold isC;simp_all;omega)),k.kept⟩
  refine V4 ?_;exact⟨jg (by rw[Mt];first | (unfold isC;simp_all;done) | (simp_all;done) | (unfold isC;simp_all;omega)),k.kept⟩
 refine Sz (λI=>?_) (λI=>?_)
 .refine V6 ?_
  exact⟨jg (by rw[Mt];first | (unfold isC;simp_all;done) | (simp_all;done) | (unfold isC;simp_all;omega)),k.kept⟩
 refine V2 ?_;exact⟨jg (by rw[Mt];first | (unfold isC;simp_all;done) | (simp_all;done) | (unfold isC;simp_all;omega)),k.kept⟩
end
end
variable {T:Td}
section
variable {p:Prop} {P:Program} {r:Option Nat} {n:Nat} {ops:AO} {Q:Post} {rest:LO} {σ:St} {w:Wd} {ty:Td} {pos:String} {after:Array Edge} {w0:Wd} {S:NP} {rs:List HP} {put:HP->List HP}
def Tz {b k:Nat} {x y:Od} [Agg P T k] {cs us:LV} {E:Td} (h: ∀w',Sep w0 S (put (blk b us E)) w'->FL P r n ops Q rest σ w') (z:Bx (FL P r n ops Q (⟨none,.store T x y,ty,pos,after,none⟩::rest) σ w)->p:=by exact zP)
    (H:Sep w0 S rs w:=by assumption) (hx:evF σ x=.pointer (some ⟨b,0,none⟩):=by exact rfl) (hy:evF σ y=.agg us.toArray:=by exact rfl)
    (hat:At rs (blk b cs E) put:=by exact aT) (hk:us.length=k:=by exact rfl) (hl:cs.length=k:=by exact rfl) (hv:us.all Value.oneCell'=true:=by exact rfl):p:=z ⟨iB H hx hy hat hk hl hv h⟩
end
section
attribute [local irreducible] FW FL FG FGn jJ jO fC lJ Qfn Gives
section
def yG: ∀a b:L8,Op.bytesLess a b=decide (compareBytes a b= -1)
 | [],[]=>rfl
 | [],_::_=>rfl
 | _::_,[]=>rfl
 | a::x1,b::y1=>by
  rw[Op.bytesLess,compareBytes,yG x1 y1]
  by_cases h1:a<b
  .simp[h1]
  by_cases h2:b<a
  .have :a≠b:=λe=>by subst e;exact h1 h2
   simp[h1,h2,this]
  have :a=b:=UInt8.le_antisymm (UInt8.not_lt.1 h2) (UInt8.not_lt.1 h1);subst this;simp[h1]
def OQ: ∀{a b:L8},compareBytes a b=0->a=b
 | [],[],_=>rfl
 | [],_::_,h=>by cases h
 | _::_,[],h=>by cases h
 | a::x1,b::y1,h=>by
  rw[compareBytes]at h
  by_cases h1:a<b
  .rw[zac h1]at h;cases h
  by_cases h2:b<a
  .rw[zaa h1,zac h2]at h;cases h
  rw[zaa h1,zaa h2]at h;rw[OQ h,UInt8.le_antisymm (UInt8.not_lt.1 h2) (UInt8.not_lt.1 h1)]
def Kk: ∀a b:L8,compareBytes a b= -1\/compareBytes a b=0\/compareBytes a b=1
 | [],[]=>.inr (.inl rfl)
 | [],_::_=>.inl rfl
 | _::_,[]=>.inr (.inr rfl)
 | a::x1,b::y1=>by
  rw[compareBytes]
  by_cases h1:a<b
  .rw[zac h1];exact .inl rfl
  by_cases h2:b<a
  .rw[zaa h1,zac h2];exact .inr (.inr rfl)
  rw[zaa h1,zaa h2];exact Kk x1 y1
def OT: ∀a:L8,compareBytes a a=0
 | []=>rfl
 | a::x1=>by rw[compareBytes,zaa (UInt8.lt_irrefl a),zaa (UInt8.lt_irrefl a),OT x1]
def CB {a b:aC} (hn:a.null=b.null) (h:a.n<b.n\/(a.n=b.n/\Op.bytesLess a.s b.s=true)):nG a b= -1:=by
 unfold nG;rw[zac hn]
 rcases h with h | ⟨h,hs⟩
 .rw[zac h]
 rw[zaa oM,zaa oM];rw[yG]at hs;exact zbd hs
def CF {a b:aC} (iJ:a≠b) (hn:a.null=b.null) (h1: ¬a.n<b.n) (h2:a.n=b.n->Op.bytesLess a.s b.s=false):nG a b=1:=by
 unfold nG;rw[zac hn,zaa h1]
 by_cases h:b.n<a.n
 .rw[zac h]
 rw[zaa h];have e:a.n=b.n:=oM;have hs:=h2 e;rw[yG]at hs
 rcases Kk a.s b.s with k | k | k
 .exact zas k (of_decide_eq_false hs)
 .exact zas (aC.ext' hn e (OQ k)) iJ
 exact k
attribute [local irreducible] oD ofC
section
variable {w:Wd}
def afE (t:bR) (c:aC):Rk prog 181 [agg (aD t),agg (ah c)] w (I (gL t c)):=by
 have H:=Sep.aH w;refine bU func181 ?_;have hch:=afD t c;refine Sr (bB H (h:=λb1 _ k _=>?_));refine bB k (h:=λb3 _ _ _=>?_);refine Kz (Va _) (λ_ k _=>?_);refine O1 ?_;refine Qn (Cd rfl (λS=>?_) (λS=>?_))
 .have bX:gL t c=2:=by rw[hch,zac (by simpa using S)]
  refine V1 ?_;exact⟨by rw[bX];rfl,k.kept⟩
 rw[zaa (by simpa using S)]at hch;refine Kz (anm _ _) (λ_ S _=>?_);refine O1 ?_;refine Qn (Cd rfl (λk=>?_) (λk=>?_))
 .have bX:gL t c=90:=by rw[hch,zac (by simpa using k)]
  refine V1 ?_;exact⟨by rw[bX];rfl,S.kept⟩
 have bX:gL t c=0:=by rw[hch,zaa (by simpa using k)]
 refine V1 ?_;exact⟨by rw[bX];rfl,S.kept⟩
def Lb (a b:aC):Rk prog 132 [agg (ah a),agg (ah b)] w (I (nG a b)):=by
 have H:=Sep.aH w;refine bU func132 ?_;refine Sr (bB H (h:=λb1 _ k _=>?_));refine bB k (h:=λb3 _ k _=>?_);refine V3 ?_;refine Vv (Gives.afd (enc:=ah) _ _ rfl rfl) (Cz (λS=>?_) (λS=>?_))
 .have bX:nG a b=0:=by rw[S];unfold nG;rw[zac rfl,zaa (Int.lt_irrefl _),zaa (Int.lt_irrefl _),OT]
  refine V1 ?_;exact⟨by first | (rw[bX];rfl) | (rw[CB tX (.inl (by assumption))];rfl) | (rw[CF iJ tX (by assumption) (λh=>zas h (by assumption))];rfl),k.kept⟩
 have iJ:=S;refine O5 ?_;refine Qn (Cd rfl (λS=>?_) (λS=>?_))
 .have hd:nG a b=if a.null=true then -1 else 1:=by unfold nG;rw[zaa (by simpa using S)]
  refine O2 ?_;refine Qn (Cd rfl (λc=>?_) (λc=>?_))
  .have bX:nG a b= -1:=by rw[hd,zac c]
   refine V1 ?_;exact⟨by first | (rw[bX];rfl) | (rw[CB tX (.inl (by assumption))];rfl) | (rw[CF iJ tX (by assumption) (λh=>zas h (by assumption))];rfl),k.kept⟩
  have bX:nG a b=1:=by rw[hd,zaa (by rw[c];simp)]
  refine V1 ?_;exact⟨by first | (rw[bX];rfl) | (rw[CB tX (.inl (by assumption))];rfl) | (rw[CF iJ tX (by assumption) (λh=>zas h (by assumption))];rfl),k.kept⟩
 have tX:a.null=b.null:=by simpa using S
 refine Sz (λc=>?_) (λc=>?_)
 .refine V2 ?_
  exact⟨by first | (rw[bX];rfl) | (rw[CB tX (.inl (by assumption))];rfl) | (rw[CF iJ tX (by assumption) (λh=>zas h (by assumption))];rfl),k.kept⟩
 refine Sz (λc=>?_) (λc=>?_)
 .refine O7 ?_
  refine Qn (Cd rfl (λc=>?_) (λc=>?_))
  .have bX:nG a b= -1:=CB tX (.inr ⟨by assumption,by assumption⟩)
   refine V1 ?_;exact⟨by first | (rw[bX];rfl) | (rw[CB tX (.inl (by assumption))];rfl) | (rw[CF iJ tX (by assumption) (λh=>zas h (by assumption))];rfl),k.kept⟩
  have bX:nG a b=1:=CF iJ tX (by assumption) (λ_=>by assumption);refine V1 ?_;exact⟨by first | (rw[bX];rfl) | (rw[CB tX (.inl (by assumption))];rfl) | (rw[CF iJ tX (by assumption) (λh=>zas h (by assumption))];rfl),k.kept⟩
 refine V3 ?_;exact⟨by first | (rw[bX];rfl) | (rw[CB tX (.inl (by assumption))];rfl) | (rw[CF iJ tX (by assumption) (λh=>zas h (by assumption))];rfl),k.kept⟩
def aiO (t:bR):Rk prog 114 [agg (aD t)] w (agg (ah ⟨oD t&&t.null,0,[]⟩)):=by
 have H:=Sep.aH w;refine pE func114 ?_;refine Sr (bB H (h:=λb1 _ _ _=>?_));refine Az (λb3 _ _ _=>?_);refine Kz (Va _) (λ_ _ _=>?_);refine Mv ?_;refine dL (t:=5) rfl (λS=>?_) (λS=>?_)
 .refine V3 ?_
  refine Vb (ah ⟨t.null,0,[]⟩) ?_;refine Tz (λ_ S=>?_);refine V0 ?_;exact⟨_,⟨_,_,_,rfl,rfl,mY (cs:=ah ⟨t.null,0,[]⟩) (o:=0) (k:=3) (S.obj At0) (us:=ah ⟨t.null,0,[]⟩) rfl rfl,rfl⟩,by simp_all[fJ,agg],S.kept⟩
 refine V1 ?_;refine Vb (ah ⟨false,0,[]⟩) ?_;refine Tz (λ_ S=>?_);refine V0 ?_;exact⟨_,⟨_,_,_,rfl,rfl,mY (cs:=ah ⟨false,0,[]⟩) (o:=0) (k:=3) (S.obj At0) (us:=ah ⟨false,0,[]⟩) rfl rfl,rfl⟩,by simp_all[fJ,agg],S.kept⟩
end
end

end
section
section gives
variable {P:Program} {ρ:Od->Value} {ty:Td} {w:Wd} {x y:Od} {T U:Td} {k:IntKind} {a b c:Int}
def Gives.abp (hx:ρ x=.int k a) (hy:ρ y=.int k b) (he:k.wrap (a+b)=c):Gives P ρ (.binOp .add T x y U) ty w (.int k c) w:=by subst he;exact Gives.add hx hy
def Gives.ano (hx:ρ x=.int k a) (hy:ρ y=.int k b) (he:k.wrap (a-b)=c):Gives P ρ (.binOp .sub T x y U) ty w (.int k c) w:=by subst he;exact Gives.sub hx hy
def Gives.apq (hx:ρ x=.int k a) (hy:ρ y=.int k b) (he:k.wrap (a*b)=c):Gives P ρ (.binOp .mul T x y U) ty w (.int k c) w:=by subst he;exact Gives.mul hx hy
def Gives.apr (hx:ρ x=.int k a) (hy:ρ y=.int k b) (h0:b≠0) (he:k.wrap (a.tdiv b)=c):Gives P ρ (.binOp .quo T x y U) ty w (.int k c) w:=by subst he;exact Gives.quo hx hy h0
def Gives.ak9 (hx:ρ x=.int k a) (he:k.wrap (0-a)=c):Gives P ρ (.unOp .neg T x) ty w (.int k c) w:=by subst he;exact Gives.neg hx
def Gives.qx {s t:Td} {j:IntKind} [hs:nk P s j] [ht:nk P t k] (hx:ρ x=.int j a) (he:k.wrap a=c):Gives P ρ (.convert s t x) ty w (.int k c) w:=by subst he;exact Gives.conv hx
end gives
end
def tT:L8:=[48,49,50,51,52,53,54,55,56,57,97,98,99,100,101,102]
variable {d:Nat}
def Tj (h:d<16):(tT.take (d+1)).drop d=[nE d]:=by
 have key: ∀i:Fin 16,(tT.take (i.val+1)).drop i.val=[nE i.val]:=dC;exact key ⟨d,h⟩
def afF {l:L8} {i:Nat} (h:i<l.length):zA (l.take (i+1))=zA (l.take i)++[nE ((l.getD i 0).toNat/16),nE ((l.getD i 0).toNat%16)]:=by
 unfold zA;rw[zat,zab h,zbv];simp[zaz,zab h]
def Le (l:L8):(zA l).length=2*l.length:=by
 induction l with
 | nil=>rfl
 | cons c l ih=>unfold zA at *;rw[zbh,zad,ih];simp;omega
variable {w:Wd}
open Go.RowKit
def adr (A:OA) (o:Nat):Value:=.pointer (A.map (·.add o))
class jd {α:Type} (enc:α->LV) (k:outParam Nat):Prop where
 len: ∀x,(enc x).length=k
def Rd {α:Type} (w:Wd) (A:OA) (enc:α->LV) (k:Nat) (l:List α):Prop:=gZ w A l.length k (l.flatMap enc)
section
variable {α:Type} {enc:α->LV} {k:Nat} {l:List α} {A:OA} {w w' w0:Wd}
def flat_get (hk: ∀x,(enc x).length=k): ∀{l:List α} {i j:Nat} {c:α},l[i]? =some c->j<k->(l.flatMap enc)[i*k+j]? =(enc c)[j]?
 | [],_,_,_,h,_=>by simp at h
 | a::l,0,j,c,h,hj=>by
  simp only[zca,Option.some.injEq]at h;subst h;rw[zbh,Nat.zero_mul,zdc,zcl (by rw[hk];exact hj)]
 | a::l,i+1,j,c,h,hj=>by
  simp only[zcm]at h;rw[zbh,zby (by rw[hk,zei];omega),hk,zei];rw[show i*k+k+j-k=i*k+j from oM];exact flat_get hk h hj
def jw (hk: ∀x,(enc x).length=k): ∀l:List α,(l.flatMap enc).length=l.length*k
 | []=>sM
 | a::l=>by rw[zbh,zad,hk,jw hk l,zaq,zei];omega
def Rd.keep (h:Rd w A enc k l) (hk:Kept noB w w'):Rd w' A enc k l:=gZ.keep h hk
def Rd.addr (h:Rd w A enc k l) (hn:0<l.length): ∃ad,A=some ad:=by
 obtain⟨ad,h1,_⟩:=h.at_ hn;exact⟨ad,h1⟩
def fI {i:Nat} {c:α} (h:l[i]? =some c):i<l.length:=(zax.1 h).1
def Rd.cell [hk:jd enc k] {i f:Nat} {c:α} {v:Value} (h:Rd w A enc k l) (hg:l[i]? =some c) (hv:(enc c)[f]? =some v): ∃ad,A=some ad/\w.cell? (ad.add (i*k+f))=some v:=by
 have hl:=fI hg;obtain⟨ad,h1,h2⟩:=h.at_ oM;refine⟨ad,h1,h2 _ _ ?_⟩;rw[flat_get hk.len hg (by rw[<-hk.len c];exact fI hv)];exact hv
end
variable {bytes i:Nat} {v:Value}
section
variable {P:Program} {ρ:Od->Value} {ty:Td} {w w0:Wd} {x y:Od} {α:Type} {enc:α->LV} {k:Nat} {l:List α} {A:OA} {rs:List HP}
def Gives.fA {t e:Td} [ht:dn P t e] [hc:Cells P e k bytes] {c i:Nat} {j:IntKind} (hx:ρ x=.slice A l.length c) (hy:ρ y=.int j i) (hr:Rd w0 A enc k l) (aX:i<l.length):Gives P ρ (.indexAddr t x y) ty w (adr A (i*k)) w:=by
 obtain⟨ad,rfl⟩:=hr.addr oM;exact Gives.idx hx hy aX
def Gives.AX {s f g o:Nat} [h:CX P s f g] (hx:ρ x=adr A o) (hr:Rd w0 A enc k l) (aX:0<l.length):Gives P ρ (.fieldAddr s x f) ty w (adr A (o+g)) w:=by
 obtain⟨ad,rfl⟩:=hr.addr aX;exact Gives.ahX hx
def Gives.dG [hk:jd enc k] {i f:Nat} {c:α} {v:Value} [OneCell P T] (hx:ρ x=adr A (i*k+f)) (H:Sep w0 noB rs w) (hr:Rd w0 A enc k l) (hg:l[i]? =some c) (hv:(enc c)[f]? =some v):Gives P ρ (.load T x) ty w v w:=by
 obtain⟨ad,rfl,h2⟩:=(hr.keep H.kept).cell hg hv;exact Gives.acL hx h2
def Gives.aiP [hk:jd enc k] {c:α} [OneCell P T] (hx:ρ x=adr A (i*k)) (H:Sep w0 noB rs w) (hr:Rd w0 A enc k l) (hg:l[i]? =some c) (hv:(enc c)[0]? =some v):Gives P ρ (.load T x) ty w v w:=
 Gives.dG (f:=0) hx H hr hg hv
def Gives.EZ [hk:jd enc k] {i f n:Nat} {c:α} {us:LV} [Agg P T n] (hx:ρ x=adr A (i*k+f)) (H:Sep w0 noB rs w) (hr:Rd w0 A enc k l) (hg:l[i]? =some c) (hu:((enc c).drop f).take n=us) (hn:us.length=n):Gives P ρ (.load T x) ty w (.agg us.toArray) w:=by
 obtain⟨ad,h1⟩:=hr.addr (by have:=fI hg;omega);subst h1;refine Gives.am2 (a:=ad.add (i*k+f)) hx (λj u hj=>?_) hn
 have hv:(enc c)[f+j]? =some u:=by
  rw[<-hu,zcu]at hj
  split at hj
  .rw[zcj]at hj;exact hj
  cases hj
 obtain⟨ad',h1,h2⟩:=(hr.keep H.kept).cell hg hv;injection h1 with h1
 subst h1;rw[add_add,Nat.add_assoc];exact h2
def Gives.iA [hk:jd enc k] {i:Nat} {c:α} [Agg P T k] (hx:ρ x=adr A (i*k)) (H:Sep w0 noB rs w) (hr:Rd w0 A enc k l) (hg:l[i]? =some c):Gives P ρ (.load T x) ty w (.agg (enc c).toArray) w:=
 Gives.EZ (f:=0) hx H hr hg (by rw[zde,<-hk.len c,zbq]) (hk.len c)
end
section
variable {P:Program} {w w0:Wd} {S:NP} {rs:List HP} {put:HP->List HP} {σ:St} {R:Value->Wd->Prop} {us:LV} {a b k E:Nat} {T:Td}
def fG [Agg P T k] (H:Sep w0 S rs w) (hx:σ a=.pointer (some ⟨b,0,none⟩):=by exact rfl) (hat:At rs (blk b us E) put:=by exact aT) (hk:us.length=k:=by exact rfl):
    qQ P σ w [.cell a T] [.agg us.toArray]:=
  ⟨_,_,_,rfl,hx,mY (k:=k) (H.obj hat) (us:=us) (by rw[zde,<-hk,zbq]) hk,rfl⟩
def bF [Agg P T k] {t:Nat} (H:Sep w0 S rs w) (hx:σ a=.pointer (some ⟨b,0,none⟩):=by exact rfl) (hat:At rs (blk b us E) put:=by exact aT) (hk:us.length=k:=by exact rfl) (hv:σ t=v:=by exact rfl):
    qQ P σ w [.cell a T,.tmp t] [.agg us.toArray,v]:=
  ⟨_,_,_,rfl,hx,mY (k:=k) (H.obj hat) (us:=us) (by rw[zde,<-hk,zbq]) hk,_,by subst hv;rfl,rfl⟩
end
instance:jd aD 2:=⟨λ_=>rfl⟩
instance:jd ah 3:=⟨λ_=>rfl⟩
instance:jd aN 3:=⟨λ_=>rfl⟩
instance:jd aM 7:=⟨λ_=>rfl⟩
def aJ {α:Type} (w:Wd) (v:Value) (enc:α->LV) (k:Nat) (l:List α):Prop:=∃A c,v=.slice A l.length c/\(l.length<=c/\c<=9223372036854775807)/\Rd w A enc k l
variable {cols:List bT} {r:List aC} {vc:Value} {n:Int}
def aJ.keep {α:Type} {w w':Wd} {v:Value} {enc:α->LV} {k:Nat} {l:List α} (h:aJ w v enc k l) (hk:Kept noB w w'):aJ w' v enc k l:=by
 obtain⟨A,c,h1,h2,h3⟩:=h;exact⟨A,c,h1,h2,h3.keep hk⟩
section
attribute [local irreducible] FW FL FG FGn jJ jO fC lJ Qfn Gives
section
def qW (cols:List bT) (r:List aC) (i:Nat):Int:=((((cols.zip r).drop i).map λp=>gL p.1.type p.2).find? (λe=>decide (e≠0))).getD 0
def CG (h:cols.length=r.length):fM cols r=qW cols r 0:=by
 unfold fM qW;rw[zaa oM,zde]
def E8 (h:r.length<=i):qW cols r i=0:=by
 unfold qW;rw[zbu (by rw[List.length_zip];omega)];rfl
def yh {a:bT} {c:aC} (ha:cols[i]? =some a) (hc:r[i]? =some c):qW cols r i=if gL a.type c≠0 then gL a.type c else qW cols r (i+1):=by
 have hz:(cols.zip r)[i]? =some (a,c):=by rw[List.getElem?_zip_eq_some];exact⟨ha,hc⟩
 have hl:=fI hz;unfold qW;rw[zbn hl];have he:(cols.zip r)[i]=(a,c):=by rw[zab hl]at hz;injection hz
 rw[he,zav,zch]
 by_cases h:gL a.type c=0<;>simp[h]
def get_some {α:Type} {l:List α} {i:Nat} (h:i<l.length): ∃c,l[i]? =some c:=⟨l[i],zab h⟩
attribute [local irreducible] gL
section
variable {w:Wd}
def OU {vr:Value} (hc:aJ w vc aM 7 cols) (hr:aJ w vr ah 3 r):Rk Tryz.prog 126 [vc,vr] w (I (fM cols r)):=by
 obtain⟨A,m,rfl,⟨hm,nX⟩,hA⟩:=hc;obtain⟨C,n,rfl,⟨hn,hn'⟩,hC⟩:=hr;have H:=Sep.aH w;refine bU Tryz.func126 ?_;refine Cz (λk=>?_) (λk=>?_)
 .have bX:fM cols r=100:=zac oM
  refine V1 ?_;exact⟨by rw[bX];rfl,H.kept⟩
 have hlen:cols.length=r.length:=oM;have Zi:=CG hlen;refine V1 ?_;refine aI (λi:Nat=>[(0,.slice A cols.length m),(1,.slice C r.length n),(5,I i)]) (λi w'=>(i<=r.length/\fM cols r=qW cols r i)/\Sep w noB [] w') (λi _=>r.length-i) 0 tR ⟨⟨zai _,Zi⟩,H⟩ (λi τ _ hI=>?_);obtain⟨⟨hi,dK⟩,k⟩:=hI;refine Lp ?_;refine Cz (λS=>?_) (λS=>?_)
 .have aX:i<r.length:=oM
  have atZ:i<cols.length:=oM;obtain⟨a,ha⟩:=get_some atZ;obtain⟨c,hc⟩:=get_some aX;have Eu:=yh ha hc;refine Dz (λS _ b=>?_);refine V4 ?_;refine Gl S 4 rfl rfl (Gives.EZ (us:=aD _) rfl b (by assumption) (by assumption) rfl rfl) (V4 ?_);refine dA S 9 _ b (afE a.type c) (h:=λ_ b _=>⟨sT,?_⟩);refine Cz (λS=>?_) (λS=>?_)
  .have bX:fM cols r=gL a.type c:=by rw[dK,Eu,zac S]
   refine V2 ?_;exact⟨by rw[bX];rfl,b.kept⟩
  have hst':fM cols r=qW cols r (i+1):=by rw[dK,Eu,zaa S]
  refine V3 ?_;exact aj (i+1) tR ⟨⟨oM,hst'⟩,b⟩ oM
 have bX:fM cols r=0:=dK.trans (E8 oM);refine V1 ?_;exact⟨by rw[bX];rfl,k.kept⟩
end
end
section
def dI (kind:Int):Nat:=if 1<=kind/\kind<=6 then 0 else if kind=10\/kind=15\/kind=16\/kind=18 then 1 else 2
def DR {x:bL} (h:dU x=true):dI x.kind=dH x.kind:=by
 have hk:1<=x.kind:=by
  unfold dU at h
  repeat' split at h
  all_goals first | omega | (have:=zbd h;omega)
 unfold dI dH
 by_cases h7:x.kind<7
 .rw[zac oM,zac h7]
 rw[zaa oM,zaa h7]
section
variable {w:Wd}
def OV (k:Int):aQ prog 110 [I k] w λv w'=>v=I (dI k)/\w=w':=by
 have H:=Sep.aH w;refine dh func110 ?_;refine Cz (λS=>?_) (λS=>?_)
 .refine Sk (dV (zay Value.bool (zap S)) ?_)
  refine V1 ?_;exact⟨by unfold dI;rw[zac oM];rfl,rfl⟩
 refine Cz (λS=>?_) (λS=>?_)
 .refine Sk (dV (zay Value.bool (zap S)) ?_)
  refine V1 ?_;exact⟨by unfold dI;rw[zac oM];rfl,rfl⟩
 refine Cz (λS=>?_) (λS=>?_)
 .refine Sk (dV (zay Value.bool (zap S)) ?_)
  refine V1 ?_;exact⟨by unfold dI;rw[zac oM];rfl,rfl⟩
 refine Cz (λS=>?_) (λS=>?_)
 .refine Sk (dV (zay Value.bool (zap S)) ?_)
  refine V1 ?_;exact⟨by unfold dI;rw[zac oM];rfl,rfl⟩
 refine Cz (λS=>?_) (λS=>?_)
 .refine Sk (dV (zay Value.bool (zap S)) ?_)
  refine V1 ?_;exact⟨by unfold dI;rw[zac oM];rfl,rfl⟩
 refine Cz (λS=>?_) (λS=>?_)
 .refine V1 ?_
  exact⟨by unfold dI;rw[zac oM];rfl,rfl⟩
 refine Cz (λS=>?_) (λS=>?_)
 .refine Sk (dV (zay Value.bool (zap S)) ?_)
  refine V1 ?_;exact⟨by unfold dI;rw[zaa oM,zac oM];rfl,rfl⟩
 refine Cz (λS=>?_) (λS=>?_)
 .refine Sk (dV (zay Value.bool (zap S)) ?_)
  refine V1 ?_;exact⟨by unfold dI;rw[zaa oM,zac oM];rfl,rfl⟩
 refine Cz (λS=>?_) (λS=>?_)
 .refine Sk (dV (zay Value.bool (zap S)) ?_)
  refine V1 ?_;exact⟨by unfold dI;rw[zaa oM,zac oM];rfl,rfl⟩
 refine Cz (λS=>?_) (λS=>?_)
 .refine V1 ?_
  exact⟨by unfold dI;rw[zaa oM,zac oM];rfl,rfl⟩
 refine V1 ?_;exact⟨by unfold dI;rw[zaa oM,zaa oM];rfl,rfl⟩
def afG (x:bL):Rk prog 111 [agg (aN x)] w (.bool (dU x)):=by
 have H:=Sep.aH w;refine dh func111 ?_;refine Sr (bB H (h:=λb1 _ k _=>?_));refine Cz (λS=>?_) (λS=>?_)
 .refine Sz (λS=>?_) (λS=>?_)
  .refine Sz (λS=>?_) (λS=>?_)
   .refine V5 ?_
    exact⟨jg (by first | (unfold dU;simp_all;done) | (simp_all;done) | (unfold dU;simp_all;omega)),k.kept⟩
   refine V2 ?_;exact⟨jg (by first | (unfold dU;simp_all;done) | (simp_all;done) | (unfold dU;simp_all;omega)),k.kept⟩
  refine V4 ?_;exact⟨jg (by first | (unfold dU;simp_all;done) | (simp_all;done) | (unfold dU;simp_all;omega)),k.kept⟩
 refine Cz (λS=>?_) (λS=>?_)
 .refine V4 ?_
  exact⟨jg (by first | (unfold dU;simp_all;done) | (simp_all;done) | (unfold dU;simp_all;omega)),k.kept⟩
 refine Cz (λS=>?_) (λS=>?_)
 .refine Sz (λS=>?_) (λS=>?_)
  .refine Sz (λS=>?_) (λS=>?_)
   .refine V5 ?_
    exact⟨jg (by first | (unfold dU;simp_all;done) | (simp_all;done) | (unfold dU;simp_all;omega)),k.kept⟩
   refine V2 ?_;exact⟨jg (by first | (unfold dU;simp_all;done) | (simp_all;done) | (unfold dU;simp_all;omega)),k.kept⟩
  refine V4 ?_;exact⟨jg (by first | (unfold dU;simp_all;done) | (simp_all;done) | (unfold dU;simp_all;omega)),k.kept⟩
 refine Cz (λS=>?_) (λS=>?_)
 .refine Sz (λS=>?_) (λS=>?_)
  .refine Sz (λS=>?_) (λS=>?_)
   .refine Kz (Tg x.s oM) (λ_ S _=>?_)
    refine V2 ?_;exact⟨jg (by first | (unfold dU;simp_all;done) | (simp_all;done) | (unfold dU;simp_all;omega)),S.kept⟩
   refine V2 ?_;exact⟨jg (by first | (unfold dU;simp_all;done) | (simp_all;done) | (unfold dU;simp_all;omega)),k.kept⟩
  refine V4 ?_;exact⟨jg (by first | (unfold dU;simp_all;done) | (simp_all;done) | (unfold dU;simp_all;omega)),k.kept⟩
 refine Cz (λS=>?_) (λS=>?_)
 .refine Sz (λS=>?_) (λS=>?_)
  .refine V6 ?_
   exact⟨jg (by first | (unfold dU;simp_all;done) | (simp_all;done) | (unfold dU;simp_all;omega)),k.kept⟩
  refine V2 ?_;exact⟨jg (by first | (unfold dU;simp_all;done) | (simp_all;done) | (unfold dU;simp_all;omega)),k.kept⟩
 refine Cz (λS=>?_) (λS=>?_)
 .refine Sz (λS=>?_) (λS=>?_)
  .refine Sz (λS=>?_) (λS=>?_)
   .refine V3 ?_
    exact⟨jg (by first | (unfold dU;simp_all;done) | (simp_all;done) | (unfold dU;simp_all;omega)),k.kept⟩
   refine Sz (λS=>?_) (λS=>?_)
   .refine V7 ?_
    exact⟨jg (by first | (unfold dU;simp_all;done) | (simp_all;done) | (unfold dU;simp_all;omega)),k.kept⟩
   refine V4 ?_;exact⟨jg (by first | (unfold dU;simp_all;done) | (simp_all;done) | (unfold dU;simp_all;omega)),k.kept⟩
  refine V2 ?_;exact⟨jg (by first | (unfold dU;simp_all;done) | (simp_all;done) | (unfold dU;simp_all;omega)),k.kept⟩
 refine Sz (λS=>?_) (λS=>?_)
 .refine Sz (λS=>?_) (λS=>?_)
  .refine Sz (λS=>?_) (λS=>?_)
   .refine V5 ?_
    exact⟨jg (by first | (unfold dU;simp_all;done) | (simp_all;done) | (unfold dU;simp_all;omega)),k.kept⟩
   refine V2 ?_;exact⟨jg (by first | (unfold dU;simp_all;done) | (simp_all;done) | (unfold dU;simp_all;omega)),k.kept⟩
  refine V4 ?_;exact⟨jg (by first | (unfold dU;simp_all;done) | (simp_all;done) | (unfold dU;simp_all;omega)),k.kept⟩
 refine V6 ?_;exact⟨jg (by first | (unfold dU;simp_all;done) | (simp_all;done) | (unfold dU;simp_all;omega)),k.kept⟩
end
def LQ (cols:List bT) (n:Int):Int:=match oF cols n with | some i=>i | none=> -1
def afH (h: ∀(j:Nat) a,cols[j]? =some a->a.id≠n):oF cols n=none:=by
 unfold oF;rw[zda];intro a ha;obtain⟨j,hj⟩:=zdd ha;simpa using h j a hj
def afI {a:bT} (hi:cols[i]? =some a) (he:a.id=n) (h: ∀(j:Nat) a,j<i->cols[j]? =some a->a.id≠n):oF cols n=some i:=by
 have hl:=fI hi;have hia:cols[i]=a:=by rw[zab hl]at hi;injection hi
 unfold oF;rw[zcw];refine⟨hl,by simp[hia,he],λj hj=>?_⟩;have:=h j cols[j] hj (zab oM);simpa using this
def aiQ (h:LQ cols n<0):oF cols n=none:=by
 unfold LQ at h
 split at h
 .omega
 assumption
def afJ (h: ¬LQ cols n<0): ∃i,oF cols n=some i/\LQ cols n=(i:Int):=by
 unfold LQ at h ⊢;cases e:oF cols n with
 | none=>rw[e]at h;simp at h
 | some i=>exact⟨i,rfl,rfl⟩
def G6 {i:Nat} (h:oF cols n=some i):i<cols.length:=by
 unfold oF at h;rw[zcw]at h;exact h.1
section
variable {w:Wd}
def Lg (n:Int) (hc:aJ w vc aM 7 cols):Rk prog 168 [vc,I n] w (I (LQ cols n)):=by
  obtain⟨A,m,rfl,⟨hm,nX⟩,hA⟩:=hc;have H:=Sep.aH w;refine bU func168 ?_;refine V2 ?_;refine aI (λi:Nat=>[(0,.slice A cols.length m),(1,I n),(5,I i)]) (λi w'=>(i<=cols.length/\∀(j:Nat) a,j<i->cols[j]? =some a->a.id≠n)/\Sep w noB [] w') (λi _=>cols.length-i) 0 tR ⟨⟨zai _,λj a hj=>oM⟩,H⟩ (λi τ w4 hI=>?_);obtain⟨⟨hi,dK⟩,H4⟩:=hI;refine Lp ?_;refine Cz (λhc9=>?_) (λhc9=>?_)
  . have aX:i<cols.length:=oM
    obtain⟨a,ha⟩:=get_some aX;refine Cz (λIe=>?_) (λIe=>?_)
    . have bX:LQ cols n=i:=by
        unfold LQ;rw[afI ha Ie dK]
      refine V2 ?_;exact⟨by rw[bX];rfl,H4.kept⟩
    have hst': ∀(j:Nat) a,j<i+1->cols[j]? =some a->a.id≠n:=by
      intro j b hj hb
      rcases zdo j i with h | h
      . exact dK j b h hb
      have :j=i:=by omega
      subst this;rw[ha]at hb;injection hb with hb;subst hb;exact Ie
    refine V3 ?_;exact aj (i+1) tR ⟨⟨oM,hst'⟩,H4⟩ oM
  have bX:LQ cols n= -1:=by
    unfold LQ;rw[afH λj a hj=>dK j a (by have:=fI hj;omega) hj]
  refine V1 ?_;exact⟨by rw[bX];rfl,H4.kept⟩
def iU (b:Bool):Rk prog 267 [.bool b] w (agg (ah (gY b))):=by
 have H:=Sep.aH w;refine pE func267 ?_;refine Az (λb1 _ _ _=>?_);refine O1 ?_;refine Qn (Cd rfl (λk=>?_) (λk=>?_))
 .refine Sr (Vb (ah (gY true)) ?_)
  refine Tz (λ_ k=>?_);refine V0 ?_;refine⟨_,fG k,?_⟩;exact⟨by simp_all[agg];rfl,k.kept⟩
 refine V0 ?_;refine Vb (ah (gY false)) ?_;refine Tz (λ_ k=>?_);refine V0 ?_;refine⟨_,fG k,?_⟩;exact⟨by simp_all[agg];rfl,k.kept⟩
end
attribute [local irreducible] oD
section
variable {w:Wd}
def afK (x:bL) (hc:aJ w vc aM 7 cols):Rk prog 112 [vc,agg (aN x)] w (.tuple #[agg (aD ((qU cols x).getD gW)),.bool (qU cols x).isSome]):=by
 have Pg:=hc;obtain⟨A,m,rfl,⟨hm,nX⟩,hA⟩:=hc;have H:=Sep.aH w;obtain⟨res,ak⟩: ∃res,res=qU cols x:=⟨_,rfl⟩;rw[<-ak];unfold qU at ak;refine tN func112 ?_;refine Sr (bB H (h:=λb1 _ _ _=>?_));refine Az (λb3 _ k _=>?_);refine Cz (λS=>?_) (λS=>?_)
 .rw[zac S]at ak
  refine Kz (Lg x.n (Pg.keep k.kept)) (λ_ k _=>?_);refine Sz (λI=>?_) (λI=>?_)
  .have bX:res=none:=by rw[ak,aiQ I]
   refine V1 ?_;refine Vb (aD gW) ?_;refine Tz (λ_ b=>?_);refine V1 ?_;refine⟨_,bF b,?_⟩;exact⟨by first | (rw[bX];rfl) | (rw[ak];rfl),b.kept⟩
  obtain⟨i,hf,hI⟩:=afJ I;have aX:=G6 hf;obtain⟨a,ha⟩:=get_some aX;have hgd:cols.getD i ⟨0,[],gW,cell0⟩=a:=by rw[zaz,ha];rfl
  rw[hf]at ak;dsimp only at ak;rw[hgd]at ak;rw[hI];refine V4 ?_;refine Vv (Gives.EZ (us:=aD _) rfl k (by assumption) (by assumption) rfl rfl) (On ?_);refine Kz (Va _) (λ_ b _=>?_);refine O2 ?_;refine Qn (Cd rfl (λI=>?_) (λI=>?_))
  .have bX:res=none:=by rw[ak,zac (by simpa using I)]
   refine Sr (Vb (aD gW) ?_);refine Tz (λ_ k=>?_);refine V1 ?_;refine⟨_,bF k,?_⟩;exact⟨by first | (rw[bX];rfl) | (rw[ak];rfl),k.kept⟩
  rw[zaa (by simpa using I)]at ak;refine V4 ?_;refine Vv (Gives.EZ (us:=aD _) rfl b (by assumption) (by assumption) rfl rfl) (Az (λb52 _ _ _=>?_));refine Tz (λ_ k=>?_);refine Cz (λI=>?_) (λI=>?_)
  .rw[zac I]at ak
   obtain⟨t,ht⟩: ∃t,t=bR.mk 3 a.type.null:=⟨_,rfl⟩;rw[<-ht]at ak;refine V1 ?_;refine sK k (cs':=aD t) (hs:=by rw[ht];rfl) (h:=λ_ _=>?_);refine Tz (λ_ b=>?_);refine V1 ?_;refine⟨_,bF b,?_⟩;exact⟨by first | (rw[bX];rfl) | (rw[ak];rfl),b.kept⟩
  rw[zaa I]at ak;obtain⟨t,ht⟩: ∃t,t=a.type:=⟨_,rfl⟩;rw[<-ht]at ak k;refine Tz (λ_ b=>?_);refine V1 ?_;refine⟨_,bF b,?_⟩;exact⟨by first | (rw[bX];rfl) | (rw[ak];rfl),b.kept⟩
 rw[zaa S]at ak;refine Cz (λb=>?_) (λb=>?_)
 .rw[zac b]at ak
  refine Sr (Vb (aD ⟨3,false⟩) ?_);refine Tz (λ_ S=>?_);refine V1 ?_;refine⟨_,bF S,?_⟩;exact⟨by first | (rw[bX];rfl) | (rw[ak];rfl),S.kept⟩
 rw[zaa b]at ak;refine Cz (λS=>?_) (λS=>?_)
 .rw[zac S]at ak
  refine Sr (Vb (aD ⟨1,false⟩) ?_);refine Tz (λ_ b=>?_);refine V1 ?_;refine⟨_,bF b,?_⟩;exact⟨by first | (rw[bX];rfl) | (rw[ak];rfl),b.kept⟩
 rw[zaa S]at ak;refine Cz (λb=>?_) (λb=>?_)
 .rw[zac b]at ak
  refine Sr (Vb (aD ⟨4,false⟩) ?_);refine Tz (λ_ S=>?_);refine V1 ?_;refine⟨_,bF S,?_⟩;exact⟨by first | (rw[bX];rfl) | (rw[ak];rfl),S.kept⟩
 rw[zaa b]at ak;refine Cz (λS=>?_) (λS=>?_)
 .rw[zac S]at ak
  refine Sr (Vb (aD ⟨5,false⟩) ?_);refine Tz (λ_ b=>?_);refine V1 ?_;refine⟨_,bF b,?_⟩;exact⟨by first | (rw[bX];rfl) | (rw[ak];rfl),b.kept⟩
 rw[zaa S]at ak;refine V2 ?_;refine Vb (aD ⟨x.n,true⟩) ?_;refine Tz (λ_ b=>?_);refine V1 ?_;refine⟨_,bF b,?_⟩;exact⟨by first | (rw[bX];rfl) | (rw[ak];rfl),b.kept⟩
end
end
def lT {res:Option bR} {t:bR} {ok:Bool} (h:res=if ok=true then some t else none): ∃t',Value.tuple #[agg (aD t),.bool ok]=.tuple #[agg (aD t'),.bool res.isSome]/\∀x,res=some x->t'=x:=by
 subst h;refine⟨t,by cases ok<;>rfl,λx hx=>?_⟩;cases ok
 .cases hx
 injection hx
section
variable {w:Wd}
def YK (a b:Int) (ha:fits a) (hb:fits b):aQ prog 268 [I a,I b] w λv w'=>v=.tuple #[I (if aY (a+b)=true then a+b else 0),.bool (aY (a+b))]/\w=w':=by
 have H:=Sep.aH w;obtain⟨Vj,Vz⟩:=ha;obtain⟨Fv,hb2⟩:=hb;refine bU func268 ?_;refine Sz (λk=>?_) (λk=>?_)
 .refine V2 ?_
  refine Vc (9223372036854775807-b) ?_;refine Sz (λk=>?_) (λk=>?_)
  .refine V3 ?_
   have hf:aY (a+b)=false:=zal oM;exact⟨by rw[hf];rfl,rfl⟩
  refine Sz (λk=>?_) (λk=>?_)
  .refine V2 ?_
   refine Vc (-9223372036854775808-b) ?_;refine Cz (λk=>?_) (λk=>?_)
   .have hf:aY (a+b)=false:=zal oM
    refine V2 ?_;have hf:aY (a+b)=false:=zal oM;exact⟨by rw[hf];rfl,rfl⟩
   have hf:aY (a+b)=true:=zap oM;refine V2 ?_;have hf:aY (a+b)=true:=zap oM;refine Vc (a+b) ?_;refine V2 ?_;exact⟨by rw[hf];rfl,rfl⟩
  refine V4 ?_;have hf:aY (a+b)=true:=zap oM;refine Vc (a+b) ?_;refine V2 ?_;exact⟨by rw[hf];rfl,rfl⟩
 refine Sz (λk=>?_) (λk=>?_)
 .refine V2 ?_
  refine Vc (-9223372036854775808-b) ?_;refine Cz (λk=>?_) (λk=>?_)
  .have hf:aY (a+b)=false:=zal oM
   refine V2 ?_;have hf:aY (a+b)=false:=zal oM;exact⟨by rw[hf];rfl,rfl⟩
  have hf:aY (a+b)=true:=zap oM;refine V2 ?_;have hf:aY (a+b)=true:=zap oM;refine Vc (a+b) ?_;refine V2 ?_;exact⟨by rw[hf];rfl,rfl⟩
 refine V4 ?_;have hf:aY (a+b)=true:=zap oM;refine Vc (a+b) ?_;refine V2 ?_;exact⟨by rw[hf];rfl,rfl⟩
theorem afL (k:Int) (a b:bR):aQ prog 113 [I k,agg (aD a),agg (aD b)] w λv w'=>(∃t,v=.tuple #[agg (aD t),.bool (vW k a b).isSome]/\∀x,vW k a b=some x->t=x)/\Kept noB w w':=by
 have H:=Sep.aH w;obtain⟨res,ak⟩: ∃res,res=vW k a b:=⟨_,rfl⟩;rw[<-ak];unfold vW at ak;refine AJ func113 ?_;refine Sr (bB H (h:=λb1 _ S _=>?_));refine bB S (h:=λb3 _ _ _=>?_);refine Az (λb5 _ S _=>?_);refine Am ?_;refine Qn (dB (λz:Bool=>[(0,I k),(4,.pointer (some ⟨b1,0,none⟩)),(5,.pointer (some ⟨b3,0,none⟩)),(6,.pointer (some ⟨b5,0,none⟩)),(7,.bool false),(8,.bool z)]) (λz w'=>z=(a.null||b.null)/\Sep w noB [blk b5 (aD gW) 45,blk b3 (aD b) 45,blk b1 (aD a) 45] w') ?_ ?_)
 .refine V3 ?_
  refine dL (t:=13) rfl (λc=>?_) (λc=>?_)
  .refine V2 ?_
   exact au _ tR ⟨by simp[*],S⟩
  refine V4 ?_;exact au _ tR ⟨by simp[*],S⟩
 rintro nn τ c ⟨tX,c⟩;refine Lp ?_;refine dB (λz:Bool=>[(0,I k),(4,.pointer (some ⟨b1,0,none⟩)),(5,.pointer (some ⟨b3,0,none⟩)),(6,.pointer (some ⟨b5,0,none⟩)),(7,.bool false),(8,.bool nn),(9,.bool z)]) (λz w'=>z=decide (a.kind=3/\b.kind=3)/\Sep w noB [blk b5 (aD gW) 45,blk b3 (aD b) 45,blk b1 (aD a) 45] w') ?_ ?_
 .refine Sz (λS=>?_) (λS=>?_)
  .refine V5 ?_
   exact au _ tR ⟨by simp[*],c⟩
  refine V2 ?_;exact au _ tR ⟨by simp[*],c⟩
 rintro n3 τ S ⟨hn3,S⟩;refine Lp ?_;refine dB (λz:Bool=>[(0,I k),(4,.pointer (some ⟨b1,0,none⟩)),(5,.pointer (some ⟨b3,0,none⟩)),(6,.pointer (some ⟨b5,0,none⟩)),(7,.bool false),(8,.bool nn),(9,.bool n3),(10,.bool z)]) (λz w'=>z=decide (a.kind=1/\b.kind=1)/\Sep w noB [blk b5 (aD gW) 45,blk b3 (aD b) 45,blk b1 (aD a) 45] w') ?_ ?_
 .refine Sz (λc=>?_) (λc=>?_)
  .refine V5 ?_
   exact au _ tR ⟨by simp[*],S⟩
  refine V2 ?_;exact au _ tR ⟨by simp[*],S⟩
 rintro n1 τ c ⟨AZ,c⟩;refine Lp ?_;refine Cz (λc=>?_) (λc=>?_)
 .refine Sk (dV (zay Value.bool (zap c)) ?_)
  refine V1 ?_;refine Vb (aD ⟨3,nn⟩) ?_;refine Mv ?_;refine Tz (λ_ c=>?_);refine V1 ?_;exact⟨_,bF c,lT (t:=⟨3,nn⟩) (ok:=n3) (by rw[ak,zac oM,tX,hn3];simp only[decide_eq_true_eq]),c.kept⟩
 refine Cz (λc=>?_) (λc=>?_)
 .refine Sk (dV (zay Value.bool (zap c)) ?_)
  refine V1 ?_;refine Vb (aD ⟨3,nn⟩) ?_;refine Mv ?_;refine Tz (λ_ c=>?_);refine V1 ?_;exact⟨_,bF c,lT (t:=⟨3,nn⟩) (ok:=n3) (by rw[ak,zac oM,tX,hn3];simp only[decide_eq_true_eq]),c.kept⟩
 refine Cz (λc=>?_) (λc=>?_)
 .refine Sk (dV (zay Value.bool (zap c)) ?_)
  refine V1 ?_;refine Vb (aD ⟨3,nn⟩) ?_;refine Mv ?_;refine Tz (λ_ c=>?_);refine V1 ?_;exact⟨_,bF c,lT (t:=⟨3,nn⟩) (ok:=n3) (by rw[ak,zac oM,tX,hn3];simp only[decide_eq_true_eq]),c.kept⟩
 refine Cz (λc=>?_) (λc=>?_)
 .refine V1 ?_
  refine Vb (aD ⟨3,nn⟩) ?_;refine Mv ?_;refine Tz (λ_ c=>?_);refine V1 ?_;exact⟨_,bF c,lT (t:=⟨3,nn⟩) (ok:=n3) (by rw[ak,zac oM,tX,hn3];simp only[decide_eq_true_eq]),c.kept⟩
 refine Cz (λc=>?_) (λc=>?_)
 .refine Sk (dV (zay Value.bool (zap c)) ?_)
  refine Dz (λc _ S=>?_);refine V1 ?_;refine Gb c 1 (aD ⟨1,nn⟩) ?_;refine V5 ?_;refine bM c 7 [(6,true),(5,false),(4,true),(3,false),(2,true)] S (h:=λ_ S=>⟨sL,?_⟩);refine V1 ?_;exact⟨_,bF S,lT (t:=⟨1,nn⟩) (ok:=decide (a.kind=b.kind)) (by rw[ak,zaa oM,zac oM,tX];simp only[decide_eq_true_eq]),S.kept⟩
 refine Cz (λS=>?_) (λS=>?_)
 .refine Dz (λS _ c=>?_)
  refine V1 ?_;refine Gb S 1 (aD ⟨1,nn⟩) ?_;refine V5 ?_;refine bM S 7 [(6,true),(5,false),(4,true),(3,false),(2,true)] c (h:=λ_ c=>⟨sL,?_⟩);refine V1 ?_;exact⟨_,bF c,lT (t:=⟨1,nn⟩) (ok:=decide (a.kind=b.kind)) (by rw[ak,zaa oM,zac oM,tX];simp only[decide_eq_true_eq]),c.kept⟩
 refine Cz (λc=>?_) (λc=>?_)
 .refine Sk (dV (zay Value.bool (zap c)) ?_)
  refine V1 ?_;refine Vb (aD ⟨1,nn⟩) ?_;refine Mv ?_;refine Tz (λ_ c=>?_);refine V1 ?_;exact⟨_,bF c,lT (t:=⟨1,nn⟩) (ok:=n1) (by rw[ak,zaa oM,zaa oM,zac oM,tX,AZ];simp only[decide_eq_true_eq]),c.kept⟩
 refine Cz (λc=>?_) (λc=>?_)
 .refine Sk (dV (zay Value.bool (zap c)) ?_)
  refine V1 ?_;refine Vb (aD ⟨1,nn⟩) ?_;refine Mv ?_;refine Tz (λ_ c=>?_);refine V1 ?_;exact⟨_,bF c,lT (t:=⟨1,nn⟩) (ok:=n1) (by rw[ak,zaa oM,zaa oM,zac oM,tX,AZ];simp only[decide_eq_true_eq]),c.kept⟩
 refine Cz (λc=>?_) (λc=>?_)
 .refine V1 ?_
  refine Vb (aD ⟨1,nn⟩) ?_;refine Mv ?_;refine Tz (λ_ c=>?_);refine V1 ?_;exact⟨_,bF c,lT (t:=⟨1,nn⟩) (ok:=n1) (by rw[ak,zaa oM,zaa oM,zac oM,tX,AZ];simp only[decide_eq_true_eq]),c.kept⟩
 refine Cz (λc=>?_) (λc=>?_)
 .refine Sr (Vb (aD ⟨1,false⟩) ?_)
  refine Tz (λ_ c=>?_);refine V1 ?_;exact⟨_,bF c,lT (t:=⟨1,false⟩) (ok:=true) (by rw[ak,zaa oM,zaa oM,zaa oM,zac oM];rfl),c.kept⟩
 refine Cz (λc=>?_) (λc=>?_)
 .refine Dz (λc _ S=>?_)
  refine V5 ?_;refine GN (t:=68) rfl (λd=>?_) (λd=>?_)
  .have hny:(a.null&&b.null)=b.null:=by rw[d];rfl
   refine V3 ?_;refine Gb c 8 (aD ⟨a.kind,b.null⟩) ?_;refine V5 ?_;refine bM c 14 [(13,true),(12,false),(11,true),(10,false),(9,true)] S (h:=λ_ e=>⟨sL,?_⟩);refine V1 ?_;exact⟨_,bF e,lT (t:=⟨a.kind,b.null⟩) (ok:=decide (a.kind=b.kind)) (by rw[ak,zaa oM,zaa oM,zaa oM,zaa oM,zac oM,hny];simp only[decide_eq_true_eq]),e.kept⟩
  have hny:(a.null&&b.null)=false:=by rw[d];rfl
  refine V1 ?_;refine Gb c 8 (aD ⟨a.kind,false⟩) ?_;refine V5 ?_;refine bM c 14 [(13,true),(12,false),(11,true),(10,false),(9,true)] S (h:=λ_ e=>⟨sL,?_⟩);refine V1 ?_;exact⟨_,bF e,lT (t:=⟨a.kind,false⟩) (ok:=decide (a.kind=b.kind)) (by rw[ak,zaa oM,zaa oM,zaa oM,zaa oM,zac oM,hny];simp only[decide_eq_true_eq]),e.kept⟩
 refine Dz (λe _ d=>?_);refine V1 ?_;refine Gb e 1 (aD ⟨3,nn⟩) ?_;refine V4 ?_;refine fK (t:=83) rfl (λS=>?_) (λS=>?_)
 .refine V1 ?_
  refine bM e 10 _ d (h:=λ_ S=>⟨sT,?_⟩);refine V1 ?_;exact⟨_,bF S,lT (t:=⟨3,nn⟩) (ok:=true) (by rw[ak,zaa oM,zaa oM,zaa oM,zaa oM,zaa oM,tX,zac (.inl (by assumption))];rfl),S.kept⟩
 refine V4 ?_;refine bM e 10 [(9,true),(8,true),(7,false),(6,true)] d (h:=λ_ S=>⟨sL,?_⟩);refine V1 ?_;exact⟨_,bF S,lT (t:=⟨3,nn⟩) (ok:=decide (a.kind=5)) (by rw[ak,zaa oM,zaa oM,zaa oM,zaa oM,zaa oM,tX];simp[*]),S.kept⟩
end
end
variable {z:Value}
def aU {α:Type} (e k:Nat) (enc:α->LV) (v:Value) (l:List α):HP:=vF e k v l.length (l.flatMap enc)
section
variable {α:Type} {enc:α->LV} {k e:Nat} {l news:List α} {A:OA} {w w' w0:Wd} {S:NP} {rs:List HP} {put:HP->List HP} {v:Value}
def Sep.iW (H:Sep w0 S rs w) (e k:Nat) (enc:α->LV):Sep w0 S (aU e k enc (.slice none 0 0) []::rs) w:=H.gy e k
def Sep.bH (H:Sep w0 S rs w) (hat:At rs (aU e k enc v l) put): ∃A c,v=.slice A l.length c/\l.length<=c/\Rd w A enc k l:=by
 obtain⟨A,c,hv,rW,_,_⟩:=Sep.xQ H hat;subst hv;exact⟨A,c,rfl,rW,Sep.rowAt H hat⟩
def Kl (hk: ∀x,(enc x).length=k): ∀(l:List α) (m:Nat),(l.take m).flatMap enc=(l.flatMap enc).take (m*k)
 | _,0=>sM
 | [],m+1=>sM
 | a::l,m+1=>by
  rw[zdb,zbh,zbh,Kl hk l m,List.take_append,hk,zei,zgd,zaj (l:=enc a) (by rw[hk];omega)]
def Sep.aps [hk:jd enc k] {c m:Nat} (H:Sep w0 S rs w) (hat:At rs (aU e k enc (.slice A l.length c) l) put) (hm:m<=l.length):Sep w0 S (put (aU e k enc (.slice A m c) (l.take m))) w:=by
 refine H.imp hat λF hF=>?_;obtain⟨⟨h1,h2⟩,h3⟩:=hF;have hlm:(l.take m).length=m:=by rw[zah];omega
 refine⟨?_,λb=>by rw[h3 b];cases A<;>simp[Value.ownBlock]⟩;show w.ownsRow 0 e k _ (l.take m).length ((l.take m).flatMap enc)
 rw[hlm,Kl hk.len];refine⟨by rw[zah,h1];exact zcp (zex k hm),?_⟩
 rcases h2 with⟨hv,h0⟩ | ⟨g,cap,cur,hv,hg,hh,rW,hmax,Ph,yH⟩
 .injection hv with ha hb hc
  subst ha;subst hc
  left
  have :m=0:=by omega
  subst this;exact⟨rfl,rfl⟩
 injection hv with ha hb hc
 subst ha;subst hc;refine .inr ⟨g,c,cur,rfl,hg,hh,oM,hmax,Ph,?_⟩;rw[<-yH,List.take_take,zcp (zex k hm)]
def Eo {P:Program} {ρ:Od->Value} {ty:Td} {x y:Od} {t b c bytes:Nat} [hs:dn P t e] [hc:Cells P e k bytes] [hz:Zero P e z] [hk:jd enc k]
    (H:Sep w0 S (blk b (news.flatMap enc) e::rs) w) (hx:ρ x=v) (hy:ρ y=.slice (some ⟨b,0,none⟩) c c) (hc':c=news.length) (hat:At rs (aU e k enc v l) put) (qF: ∀u∈news.flatMap enc,u.oneCell'=true)
    (zF:0<k) (Es:z.cells.size=k) (h63:l.length+news.length<=maxLen) (hbytes:(l.length+news.length)*bytes<=140737488355328):
    ∃v' w',Gives P ρ (.call {callee:=.builtin .append,args:= #[x,y],argTypes:= #[t,t]}) ty w v' w'/\Sep w0 S (put (aU e k enc v' (l++news))) w':=by
  subst hc';have hr:gZ w (some ⟨b,0,none⟩) news.length k (news.flatMap enc):=Sep.lV H At0 (jw hk.len news);have H2:=H.bI;obtain⟨F,hp,_,_⟩:=H2.focus hat;obtain⟨v',w',iw,oI,hg,hb⟩:=vG (P:=P) (ty:=ty) t e (z:=z) zF Es v l.length (l.flatMap enc) hp.1 (some ⟨b,0,none⟩) news.length news.length (news.flatMap enc) hr qF h63 hbytes;refine⟨v',w',λ_ _ _ _=>?_,?_⟩
  . simp only[execOp,resolve,invoke,builtin,zbj,zbl,zan,zce,zav,zci,hx,hy,iw]
  refine H2.Dp hat hg ?_ (by rcases hb with e | e<;>simp[e]);rw[<-zbv]at oI;rw[zad];exact oI
end
section
variable {P:Program} {r:Option Nat} {n:Nat} {ops:AO} {Q:Post} {rest:LO} {σ:St} {w w' w0:Wd} {S:NP} {rs:List HP} {put:HP->List HP} {ty:Td} {pos:String} {after:Array Edge} {guard:Option (Nat×Bool)} {lv:List Bool} {pd:LNB} {α:Type} {enc:α->LV} {k e:Nat} {l news:List α} {v:Value}
def dJ {x y:Od} {t b c:Nat} [hs:dn P t e] [hc:Cells P e k bytes] [hz:Zero P e z] [hk:jd enc k]
    (H:Sep w0 S (blk b (news.flatMap enc) e::rs) w) (hat:At rs (aU e k enc v l) put) (h63:l.length+news.length<=maxLen) (hbytes:(l.length+news.length)*bytes<=140737488355328) (qF: ∀u∈news.flatMap enc,u.oneCell'=true)
    (hx:evF σ x=v:=by exact rfl) (hy:evF σ y=.slice (some ⟨b,0,none⟩) c c:=by exact rfl) (hc':c=news.length:=by exact rfl) (zF:0<k:=by decide) (Es:z.cells.size=k:=by exact rfl) (hd:Nat.blt d n=true:=by exact rfl)
    (h: ∀v' w',Sep w0 S (put (aU e k enc v' (l++news))) w'->FL P r n ops Q rest (upd σ d v') w'):
    FL P r n ops Q (⟨some d,.call {callee:=.builtin .append,args:= #[x,y],argTypes:= #[t,t]},ty,pos,after,none⟩::rest) σ w:=by
  obtain⟨v',w',hg,hs'⟩:=Eo (P:=P) (t:=t) (ty:=ty) H hx hy hc' hat qF zF Es h63 hbytes;exact dD hg hd (h v' w' hs')
def gH (fB:dX n ops=true) (i:Nat) (pd':LNB) {x y:Od} {t b c:Nat} [hs:dn P t e] [hc:Cells P e k bytes] [hz:Zero P e z] [hk:jd enc k]
    (H:Sep w0 S (blk b (news.flatMap enc) e::rs) w) (hat:At rs (aU e k enc v l) put) (h63:l.length+news.length<=maxLen) (hbytes:(l.length+news.length)*bytes<=140737488355328) (qF: ∀u∈news.flatMap enc,u.oneCell'=true)
    (ho:ops[i]? =some ⟨some d,.call {callee:=.builtin .append,args:= #[x,y],argTypes:= #[t,t]},ty,pos,after,guard⟩:=by exact rfl)
    (hw:Region.wanted ⟨some d,.call {callee:=.builtin .append,args:= #[x,y],argTypes:= #[t,t]},ty,pos,after,guard⟩ (bY ops σ)=true:=by kernel_rfl)
    (hx:evF σ x=v:=by exact rfl) (hy:evF σ y=.slice (some ⟨b,0,none⟩) c c:=by exact rfl) (hc':c=news.length:=by exact rfl) (zF:0<k:=by decide) (Es:z.cells.size=k:=by exact rfl)
    (dN:fE ops lv (pd.map (·.1)) i=true:=by kernel_rfl) (oH:pd.filter (λp=> !((above ops i).contains p.1))=pd':=by exact pD)
    (h: ∀v' w',Sep w0 S (put (aU e k enc v' (l++news))) w'->jo P ops (upd σ d v') w' pd'/\FG P r n ops Q (lv.set i true) pd' (upd σ d v') w'):FG P r n ops Q lv pd σ w:=
  vK fB i pd' ho hw (Eo (P:=P) (t:=t) (ty:=ty) H hx hy hc' hat qF zF Es h63 hbytes) dN oH h
def r9 (fB:dX n ops=true) (i:Nat) (pd':LNB) [hz:Zero P T z] {cs:LV} (H:Sep w0 S rs w) (ho:ops[i]? =some ⟨some d,.alloc T,ty,pos,after,guard⟩:=by exact rfl)
    (hw:Region.wanted ⟨some d,.alloc T,ty,pos,after,guard⟩ (bY ops σ)=true:=by kernel_rfl) (hcs:z.cells=cs.toArray:=by exact rfl)
    (dN:fE ops lv (pd.map (·.1)) i=true:=by kernel_rfl) (oH:pd.filter (λp=> !((above ops i).contains p.1))=pd':=by exact pD)
    (h: ∀b w',Sep w0 S (blk b cs T::rs) w'->jo P ops (upd σ d (.pointer (some ⟨b,0,none⟩))) w' pd'/\FG P r n ops Q (lv.set i true) pd' (upd σ d (.pointer (some ⟨b,0,none⟩))) w'):FG P r n ops Q lv pd σ w:=
  vK (C:=λv w'=>∃b,v=.pointer (some ⟨b,0,none⟩)/\Sep w0 S (blk b cs T::rs) w') fB i pd' ho hw
    ⟨.pointer (some ⟨w.heap.size,0,none⟩),w.alloc (.cells cs.toArray T),λ_ _ _ _=>by simp[execOp,Instr.alloc,hz.run,newVar,newRow,hcs],_,rfl,H.alloc _⟩ dN oH
    (λv w' hv=>by obtain⟨b,rfl,hs⟩:=hv;exact h b w' hs)
end
section
variable {P:Program} {ρ:Od->Value} {ty:Td} {w:Wd} {x y:Od} {α:Type} {enc:α->LV} {k:Nat} {l:List α} {A:OA}
def Gives.CJ [hk:jd enc k] {i f:Nat} {c:α} [OneCell P T] (hx:ρ x=adr A (i*k+f)) (hr:Rd w A enc k l) (hg:l[i]? =some c) (hv:(enc c)[f]? =some v):Gives P ρ (.load T x) ty w v w:=by
 obtain⟨ad,rfl,h2⟩:=hr.cell hg hv;exact Gives.acL hx h2
def Gives.pF [hk:jd enc k] {i:Nat} {c:α} [Agg P T k] (hx:ρ x=adr A (i*k)) (hr:Rd w A enc k l) (hg:l[i]? =some c):Gives P ρ (.load T x) ty w (.agg (enc c).toArray) w:=
 Gives.iA (rs:=[]) hx (Sep.aH w) hr hg
end
def cells_one {α:Type} {enc:α->LV} (h: ∀x,(enc x).all Value.oneCell'=true) (l:List α): ∀u∈l.flatMap enc,u.oneCell'=true:=λu hu=>by
 obtain⟨x,_,hx⟩:=zcc.1 hu;exact zba.1 (h x) u hx
end Go.Proofs.Mw
