/-
 The document's cells,walked:types,and what a cell may be.
-/
import Derived.Test.YtjcgliljofbopaaGreatDoorNv7
set_option linter.all false
set_option maxRecDepth 4000
namespace Go.Proofs.Mw
open Go.Lib Go.Proofs.Tryz
section
attribute [local irreducible] FW FL FG FGn jK jO fI lU Qfn Gives
def jh {a b:Bool} (h:a=true↔b=true):Value.bool a=.bool b:=zaw Value.bool (zdt.2 h)
def ofC (t:bM) (c:aC):Bool:=if c.null=true then decide (t.null=true/\c.n=0/\c.s=[])else isC t.kind c
def aeK (t:bM) (c:aC):gJ t c=if nZ t=false then 2 else if ofC t c=false then 90 else 0:=by
 unfold gJ ofC
 by_cases h1:nZ t=false
 .rw[zac h1,zac h1]
 rw[zab h1,zab h1]
 by_cases h2:c.null=true
 .rw[zac h2,zac h2]
  have e:(c=bF)=(c.n=0/\c.s=[]):=propext ⟨λh=>by rw[h];exact⟨rfl,rfl⟩,λh=>aC.ext' h2 h.1 h.2⟩;simp only[e]
  by_cases h3:t.null=true/\c.n=0/\c.s=[]
  .rw[zac h3,zab (by simp[h3])]
  rw[zab h3,zac (by simpa using h3)]
 rw[zab h2,zab h2];cases isC t.kind c<;>rfl
section
variable {w:Wd}
def UA (t:bM):Rk prog 148 [agg (aD t)] w (.bool (nZ t)):=by
 have H:=Sep.aF w;refine cK func148 ?_;refine Sr (bB H (h:=λb1 _ k _=>?_));refine Sz (λS=>?_) (λS=>?_)
 .refine Zb5 ?_
  exact⟨jh (by unfold nZ;simp;omega),k.kept⟩
 refine Zb2 ?_;exact⟨jh (by unfold nZ;simp;omega),k.kept⟩
def amj (t:bM) (c:aC):Rk prog 217 [agg (aD t),agg (ah c)] w (.bool (ofC t c)):=by
 have H:=Sep.aF w;refine bQ func217 ?_;refine Sr (bB H (h:=λb1 _ k _=>?_));refine bB k (h:=λb3 _ k _=>?_);refine Za3 ?_;refine Qn (Cd rfl (λS=>?_) (λS=>?_))
 .have Ls:ofC t c=decide (t.null=true/\c.n=0/\c.s=[]):=by unfold ofC;rw[zac S]
  refine Zb3 ?_;refine dH (t:=9) rfl (λI=>?_) (λI=>?_)
  .refine Sz (λI=>?_) (λI=>?_)
   .refine Zb5 ?_
    exact⟨jh (by rw[Ls];first | (unfold isC;simp_all;done) | (simp_all;done) | (unfold isC;simp_all;omega)),k.kept⟩
   refine Zb2 ?_;exact⟨jh (by rw[Ls];first | (unfold isC;simp_all;done) | (simp_all;done) | (unfold isC;simp_all;omega)),k.kept⟩
  refine Zb4 ?_;exact⟨jh (by rw[Ls];first | (unfold isC;simp_all;done) | (simp_all;done) | (unfold isC;simp_all;omega)),k.kept⟩
 have Ls:ofC t c=isC t.kind c:=by unfold ofC;rw[zab (by rw[S];simp)]
 refine Cz (λI=>?_) (λI=>?_)
 .refine Sz (λI=>?_) (λI=>?_)
  .refine Sz (λI=>?_) (λI=>?_)
   .refine Zb3 ?_
    exact⟨jh (by rw[Ls];first | (unfold isC;simp_all;done) | (simp_all;done) | (unfold isC;simp_all;omega)),k.kept⟩
   refine Zb6 ?_;exact⟨jh (by rw[Ls];first | (unfold isC;simp_all;done) | (simp_all;done) | (unfold isC;simp_all;omega)),k.kept⟩
  refine Zb2 ?_;exact⟨jh (by rw[Ls];first | (unfold isC;simp_all;done) | (simp_all;done) | (unfold isC;simp_all;omega)),k.kept⟩
 refine Cz (λI=>?_) (λI=>?_)
 .refine Sz (λI=>?_) (λI=>?_)
  .refine Sz (λI=>?_) (λI=>?_)
   .refine Zb5 ?_
    exact⟨jh (by rw[Ls];first | (unfold isC;simp_all;done) | (simp_all;done) | (unfold isC;simp_all;omega)),k.kept⟩
   refine Zb2 ?_;exact⟨jh (by rw[Ls];first | (unfold isC;simp_all;done) | (simp_all;done) | (unfold isC;simp_all;omega)),k.kept⟩
  refine Zb4 ?_;exact⟨jh (by rw[Ls];first | (unfold isC;simp_all;done) | (simp_all;done) | (unfold isC;simp_all;omega)),k.kept⟩
 refine Cz (λI=>?_) (λI=>?_)
 .refine Zb4 ?_
  exact⟨jh (by rw[Ls];first | (unfold isC;simp_all;done) | (simp_all;done) | (unfold isC;simp_all;omega)),k.kept⟩
 refine Cz (λI=>?_) (λI=>?_)
 .refine Sz (λI=>?_) (λI=>?_)
  .refine Sz (λI=>?_) (λI=>?_)
   .refine Kz (Ry c.s oM) (λ_ I _=>?_)
    refine Zb2 ?_;exact⟨jh (by rw[Ls];first | (unfold isC;simp_all;done) | (simp_all;done) | (unfold isC;simp_all;omega)),I.kept⟩
   refine Zb2 ?_;exact⟨jh (by rw[Ls];first | (unfold isC;simp_all;done) | (simp_all;done) | (unfold isC;simp_all;omega)),k.kept⟩
  refine Zb4 ?_;exact⟨jh (by rw[Ls];first | (unfold isC;simp_all;done) | (simp_all;done) | (unfold isC;simp_all;omega)),k.kept⟩
 refine Sz (λI=>?_) (λI=>?_)
 .refine Zb6 ?_
  exact⟨jh (by rw[Ls];first | (unfold isC;simp_all;done) | (simp_all;done) | (unfold isC;simp_all;omega)),k.kept⟩
 refine Zb2 ?_;exact⟨jh (by rw[Ls];first | (unfold isC;simp_all;done) | (simp_all;done) | (unfold isC;simp_all;omega)),k.kept⟩
end
end
variable {T:Td}
section
variable {p:Prop} {P:Program} {r:Option Nat} {n:Nat} {ops:AO} {Q:Post} {rest:LO} {σ:St} {w:Wd} {ty:Td} {pos:String} {after:Array Edge} {w0:Wd} {S:NP} {rs:List HP} {put:HP->List HP}
def Tz {b k:Nat} {x y:Od} [Agg P T k] {cs us:LV} {E:Td} (h: ∀w',Sep w0 S (put (blk b us E)) w'->FL P r n ops Q rest σ w') (z:Bx (FL P r n ops Q (⟨none,.store T x y,ty,pos,after,none⟩::rest) σ w)->p:=by exact zP)
    (H:Sep w0 S rs w:=by assumption) (hx:evF σ x=.pointer (some ⟨b,0,none⟩):=by exact rfl) (hy:evF σ y=.agg us.toArray:=by exact rfl)
    (hat:At rs (blk b cs E) put:=by exact aT) (hk:us.length=k:=by exact rfl) (hl:cs.length=k:=by exact rfl) (hv:us.all Value.oneCell'=true:=by exact rfl):p:=z ⟨iy H hx hy hat hk hl hv h⟩
end
section
attribute [local irreducible] FW FL FG FGn jK jO fI lU Qfn Gives
section
def xX: ∀a b:L8,Op.bytesLess a b=decide (compareBytes a b= -1)
 | [],[]=>rfl
 | [],_::_=>rfl
 | _::_,[]=>rfl
 | a::x1,b::y1=>by
  rw[Op.bytesLess,compareBytes,xX x1 y1]
  by_cases h1:a<b
  .simp[h1]
  by_cases h2:b<a
  .have :a≠b:=λe=>by subst e;exact h1 h2
   simp[h1,h2,this]
  have :a=b:=UInt8.le_antisymm (UInt8.not_lt.1 h2) (UInt8.not_lt.1 h1);subst this;simp[h1]
def Oh: ∀{a b:L8},compareBytes a b=0->a=b
 | [],[],_=>rfl
 | [],_::_,h=>by cases h
 | _::_,[],h=>by cases h
 | a::x1,b::y1,h=>by
  rw[compareBytes]at h
  by_cases h1:a<b
  .rw[zac h1]at h;cases h
  by_cases h2:b<a
  .rw[zab h1,zac h2]at h;cases h
  rw[zab h1,zab h2]at h;rw[Oh h,UInt8.le_antisymm (UInt8.not_lt.1 h2) (UInt8.not_lt.1 h1)]
def JJ: ∀a b:L8,compareBytes a b= -1\/compareBytes a b=0\/compareBytes a b=1
 | [],[]=>.inr (.inl rfl)
 | [],_::_=>.inl rfl
 | _::_,[]=>.inr (.inr rfl)
 | a::x1,b::y1=>by
  rw[compareBytes]
  by_cases h1:a<b
  .rw[zac h1];exact .inl rfl
  by_cases h2:b<a
  .rw[zab h1,zac h2];exact .inr (.inr rfl)
  rw[zab h1,zab h2];exact JJ x1 y1
def Oi: ∀a:L8,compareBytes a a=0
 | []=>rfl
 | a::x1=>by rw[compareBytes,zab (UInt8.lt_irrefl a),zab (UInt8.lt_irrefl a),Oi x1]
def BX {a b:aC} (hn:a.null=b.null) (h:a.n<b.n\/(a.n=b.n/\Op.bytesLess a.s b.s=true)):nk a b= -1:=by
 unfold nk;rw[zac hn]
 rcases h with h | ⟨h,hs⟩
 .rw[zac h]
 rw[zab oM,zab oM];rw[xX]at hs;exact zbd hs
def BZ {a b:aC} (iN:a≠b) (hn:a.null=b.null) (h1: ¬a.n<b.n) (h2:a.n=b.n->Op.bytesLess a.s b.s=false):nk a b=1:=by
 unfold nk;rw[zac hn,zab h1]
 by_cases h:b.n<a.n
 .rw[zac h]
 rw[zab h];have e:a.n=b.n:=oM;have hs:=h2 e;rw[xX]at hs
 rcases JJ a.s b.s with k | k | k
 .exact zar k (of_decide_eq_false hs)
 .exact zar (aC.ext' hn e (Oh k)) iN
 exact k
attribute [local irreducible] nZ ofC
section
variable {w:Wd}
def aeL (t:bM) (c:aC):Rk prog 149 [agg (aD t),agg (ah c)] w (I (gJ t c)):=by
 have H:=Sep.aF w;refine bQ func149 ?_;have hch:=aeK t c;refine Sr (bB H (h:=λb1 _ k _=>?_));refine bB k (h:=λb3 _ _ _=>?_);refine Kz (UA _) (λ_ k _=>?_);refine Za1 ?_;refine Qn (Cd rfl (λS=>?_) (λS=>?_))
 .have bT:gJ t c=2:=by rw[hch,zac (by simpa using S)]
  refine Zb1 ?_;exact⟨by rw[bT];rfl,k.kept⟩
 rw[zab (by simpa using S)]at hch;refine Kz (amj _ _) (λ_ S _=>?_);refine Za1 ?_;refine Qn (Cd rfl (λk=>?_) (λk=>?_))
 .have bT:gJ t c=90:=by rw[hch,zac (by simpa using k)]
  refine Zb1 ?_;exact⟨by rw[bT];rfl,S.kept⟩
 have bT:gJ t c=0:=by rw[hch,zab (by simpa using k)]
 refine Zb1 ?_;exact⟨by rw[bT];rfl,S.kept⟩
def KC (a b:aC):Rk prog 111 [agg (ah a),agg (ah b)] w (I (nk a b)):=by
 have H:=Sep.aF w;refine bQ func111 ?_;refine Sr (bB H (h:=λb1 _ k _=>?_));refine bB k (h:=λb3 _ k _=>?_);refine Zb3 ?_;refine Vv (Gives.aer (enc:=ah) _ _ rfl rfl) (Cz (λS=>?_) (λS=>?_))
 .have bT:nk a b=0:=by rw[S];unfold nk;rw[zac rfl,zab (Int.lt_irrefl _),zab (Int.lt_irrefl _),Oi]
  refine Zb1 ?_;exact⟨by first | (rw[bT];rfl) | (rw[BX tu (.inl (by assumption))];rfl) | (rw[BZ iN tu (by assumption) (λh=>zar h (by assumption))];rfl),k.kept⟩
 have iN:=S;refine Za5 ?_;refine Qn (Cd rfl (λS=>?_) (λS=>?_))
 .have hd:nk a b=if a.null=true then -1 else 1:=by unfold nk;rw[zab (by simpa using S)]
  refine Za2 ?_;refine Qn (Cd rfl (λc=>?_) (λc=>?_))
  .have bT:nk a b= -1:=by rw[hd,zac c]
   refine Zb1 ?_;exact⟨by first | (rw[bT];rfl) | (rw[BX tu (.inl (by assumption))];rfl) | (rw[BZ iN tu (by assumption) (λh=>zar h (by assumption))];rfl),k.kept⟩
  have bT:nk a b=1:=by rw[hd,zab (by rw[c];simp)]
  refine Zb1 ?_;exact⟨by first | (rw[bT];rfl) | (rw[BX tu (.inl (by assumption))];rfl) | (rw[BZ iN tu (by assumption) (λh=>zar h (by assumption))];rfl),k.kept⟩
 have tu:a.null=b.null:=by simpa using S
 refine Sz (λc=>?_) (λc=>?_)
 .refine Zb2 ?_
  exact⟨by first | (rw[bT];rfl) | (rw[BX tu (.inl (by assumption))];rfl) | (rw[BZ iN tu (by assumption) (λh=>zar h (by assumption))];rfl),k.kept⟩
 refine Sz (λc=>?_) (λc=>?_)
 .refine Za7 ?_
  refine Qn (Cd rfl (λc=>?_) (λc=>?_))
  .have bT:nk a b= -1:=BX tu (.inr ⟨by assumption,by assumption⟩)
   refine Zb1 ?_;exact⟨by first | (rw[bT];rfl) | (rw[BX tu (.inl (by assumption))];rfl) | (rw[BZ iN tu (by assumption) (λh=>zar h (by assumption))];rfl),k.kept⟩
  have bT:nk a b=1:=BZ iN tu (by assumption) (λ_=>by assumption);refine Zb1 ?_;exact⟨by first | (rw[bT];rfl) | (rw[BX tu (.inl (by assumption))];rfl) | (rw[BZ iN tu (by assumption) (λh=>zar h (by assumption))];rfl),k.kept⟩
 refine Zb3 ?_;exact⟨by first | (rw[bT];rfl) | (rw[BX tu (.inl (by assumption))];rfl) | (rw[BZ iN tu (by assumption) (λh=>zar h (by assumption))];rfl),k.kept⟩
def ahM (t:bM):Rk prog 104 [agg (aD t)] w (agg (ah ⟨nZ t&&t.null,0,[]⟩)):=by
 have H:=Sep.aF w;refine oV func104 ?_;refine Sr (bB H (h:=λb1 _ _ _=>?_));refine Az (λb3 _ _ _=>?_);refine Kz (UA _) (λ_ _ _=>?_);refine Mv ?_;refine dH (t:=5) rfl (λS=>?_) (λS=>?_)
 .refine Zb3 ?_
  refine Vb (ah ⟨t.null,0,[]⟩) ?_;refine Tz (λ_ S=>?_);refine Zb0 ?_;exact⟨_,⟨_,_,_,rfl,rfl,mP (cs:=ah ⟨t.null,0,[]⟩) (o:=0) (k:=3) (S.obj At0) (us:=ah ⟨t.null,0,[]⟩) rfl rfl,rfl⟩,by simp_all[fG,agg],S.kept⟩
 refine Zb1 ?_;refine Vb (ah ⟨false,0,[]⟩) ?_;refine Tz (λ_ S=>?_);refine Zb0 ?_;exact⟨_,⟨_,_,_,rfl,rfl,mP (cs:=ah ⟨false,0,[]⟩) (o:=0) (k:=3) (S.obj At0) (us:=ah ⟨false,0,[]⟩) rfl rfl,rfl⟩,by simp_all[fG,agg],S.kept⟩
end
end

end
section
section gives
variable {P:Program} {ρ:Od->Value} {ty:Td} {w:Wd} {x y:Od} {T U:Td} {k:IntKind} {a b c:Int}
def Gives.aaz (hx:ρ x=.int k a) (hy:ρ y=.int k b) (he:k.wrap (a+b)=c):Gives P ρ (.binOp .add T x y U) ty w (.int k c) w:=by subst he;exact Gives.add hx hy
def Gives.amk (hx:ρ x=.int k a) (hy:ρ y=.int k b) (he:k.wrap (a-b)=c):Gives P ρ (.binOp .sub T x y U) ty w (.int k c) w:=by subst he;exact Gives.sub hx hy
def Gives.aok (hx:ρ x=.int k a) (hy:ρ y=.int k b) (he:k.wrap (a*b)=c):Gives P ρ (.binOp .mul T x y U) ty w (.int k c) w:=by subst he;exact Gives.mul hx hy
def Gives.aol (hx:ρ x=.int k a) (hy:ρ y=.int k b) (h0:b≠0) (he:k.wrap (a.tdiv b)=c):Gives P ρ (.binOp .quo T x y U) ty w (.int k c) w:=by subst he;exact Gives.quo hx hy h0
def Gives.aj4 (hx:ρ x=.int k a) (he:k.wrap (0-a)=c):Gives P ρ (.unOp .neg T x) ty w (.int k c) w:=by subst he;exact Gives.neg hx
def Gives.ql {s t:Td} {j:IntKind} [hs:mV P s j] [ht:mV P t k] (hx:ρ x=.int j a) (he:k.wrap a=c):Gives P ρ (.convert s t x) ty w (.int k c) w:=by subst he;exact Gives.conv hx
end gives
end
def sW:L8:=[48,49,50,51,52,53,54,55,56,57,97,98,99,100,101,102]
variable {d:Nat}
def RA (h:d<16):(sW.take (d+1)).drop d=[ni d]:=by
 have key: ∀i:Fin 16,(sW.take (i.val+1)).drop i.val=[ni i.val]:=dC;exact key ⟨d,h⟩
def aeM {l:L8} {i:Nat} (h:i<l.length):yY (l.take (i+1))=yY (l.take i)++[ni ((l.getD i 0).toNat/16),ni ((l.getD i 0).toNat%16)]:=by
 unfold yY;rw[zay,zaa h,zbt];simp[zax,zaa h]
def KD (l:L8):(yY l).length=2*l.length:=by
 induction l with
 | nil=>rfl
 | cons c l ih=>unfold yY at *;rw[zbh,zad,ih];simp;omega
variable {w:Wd}
open Go.RowKit
def adr (A:OA) (o:Nat):Value:=.pointer (A.map (·.add o))
class je {α:Type} (enc:α->LV) (k:outParam Nat):Prop where
 len: ∀x,(enc x).length=k
def Rd {α:Type} (w:Wd) (A:OA) (enc:α->LV) (k:Nat) (l:List α):Prop:=gY w A l.length k (l.flatMap enc)
section
variable {α:Type} {enc:α->LV} {k:Nat} {l:List α} {A:OA} {w w' w0:Wd}
def flat_get (hk: ∀x,(enc x).length=k): ∀{l:List α} {i j:Nat} {c:α},l[i]? =some c->j<k->(l.flatMap enc)[i*k+j]? =(enc c)[j]?
 | [],_,_,_,h,_=>by simp at h
 | a::l,0,j,c,h,hj=>by
  simp only[zce,Option.some.injEq]at h;subst h;rw[zbh,Nat.zero_mul,zcz,zcj (by rw[hk];exact hj)]
 | a::l,i+1,j,c,h,hj=>by
  simp only[zck]at h;rw[zbh,zby (by rw[hk,zeg];omega),hk,zeg];rw[show i*k+k+j-k=i*k+j from oM];exact flat_get hk h hj
def jq (hk: ∀x,(enc x).length=k): ∀l:List α,(l.flatMap enc).length=l.length*k
 | []=>sM
 | a::l=>by rw[zbh,zad,hk,jq hk l,zas,zeg];omega
def Rd.keep (h:Rd w A enc k l) (hk:Kept noB w w'):Rd w' A enc k l:=gY.keep h hk
def Rd.addr (h:Rd w A enc k l) (hn:0<l.length): ∃ad,A=some ad:=by
 obtain⟨ad,h1,_⟩:=h.at_ hn;exact⟨ad,h1⟩
def fO {i:Nat} {c:α} (h:l[i]? =some c):i<l.length:=(zbb.1 h).1
def Rd.cell [hk:je enc k] {i f:Nat} {c:α} {v:Value} (h:Rd w A enc k l) (hg:l[i]? =some c) (hv:(enc c)[f]? =some v): ∃ad,A=some ad/\w.cell? (ad.add (i*k+f))=some v:=by
 have hl:=fO hg;obtain⟨ad,h1,h2⟩:=h.at_ oM;refine⟨ad,h1,h2 _ _ ?_⟩;rw[flat_get hk.len hg (by rw[<-hk.len c];exact fO hv)];exact hv
end
variable {bytes i:Nat} {v:Value}
section
variable {P:Program} {ρ:Od->Value} {ty:Td} {w w0:Wd} {x y:Od} {α:Type} {enc:α->LV} {k:Nat} {l:List α} {A:OA} {rs:List HP}
def Gives.fF {t e:Td} [ht:cO P t e] [hc:Cells P e k bytes] {c i:Nat} {j:IntKind} (hx:ρ x=.slice A l.length c) (hy:ρ y=.int j i) (hr:Rd w0 A enc k l) (aS:i<l.length):Gives P ρ (.indexAddr t x y) ty w (adr A (i*k)) w:=by
 obtain⟨ad,rfl⟩:=hr.addr oM;exact Gives.idx hx hy aS
def Gives.UC {s f g o:Nat} [h:Cm P s f g] (hx:ρ x=adr A o) (hr:Rd w0 A enc k l) (aS:0<l.length):Gives P ρ (.fieldAddr s x f) ty w (adr A (o+g)) w:=by
 obtain⟨ad,rfl⟩:=hr.addr aS;exact Gives.ahd hx
def Gives.dz [hk:je enc k] {i f:Nat} {c:α} {v:Value} [OneCell P T] (hx:ρ x=adr A (i*k+f)) (H:Sep w0 noB rs w) (hr:Rd w0 A enc k l) (hg:l[i]? =some c) (hv:(enc c)[f]? =some v):Gives P ρ (.load T x) ty w v w:=by
 obtain⟨ad,rfl,h2⟩:=(hr.keep H.kept).cell hg hv;exact Gives.abO hx h2
def Gives.ahN [hk:je enc k] {c:α} [OneCell P T] (hx:ρ x=adr A (i*k)) (H:Sep w0 noB rs w) (hr:Rd w0 A enc k l) (hg:l[i]? =some c) (hv:(enc c)[0]? =some v):Gives P ρ (.load T x) ty w v w:=
 Gives.dz (f:=0) hx H hr hg hv
def Gives.EB [hk:je enc k] {i f n:Nat} {c:α} {us:LV} [Agg P T n] (hx:ρ x=adr A (i*k+f)) (H:Sep w0 noB rs w) (hr:Rd w0 A enc k l) (hg:l[i]? =some c) (hu:((enc c).drop f).take n=us) (hn:us.length=n):Gives P ρ (.load T x) ty w (.agg us.toArray) w:=by
 obtain⟨ad,h1⟩:=hr.addr (by have:=fO hg;omega);subst h1;refine Gives.al2 (a:=ad.add (i*k+f)) hx (λj u hj=>?_) hn
 have hv:(enc c)[f+j]? =some u:=by
  rw[<-hu,zcs]at hj
  split at hj
  .rw[zci]at hj;exact hj
  cases hj
 obtain⟨ad',h1,h2⟩:=(hr.keep H.kept).cell hg hv;injection h1 with h1
 subst h1;rw[add_add,Nat.add_assoc];exact h2
def Gives.iH [hk:je enc k] {i:Nat} {c:α} [Agg P T k] (hx:ρ x=adr A (i*k)) (H:Sep w0 noB rs w) (hr:Rd w0 A enc k l) (hg:l[i]? =some c):Gives P ρ (.load T x) ty w (.agg (enc c).toArray) w:=
 Gives.EB (f:=0) hx H hr hg (by rw[zdd,<-hk.len c,zbr]) (hk.len c)
end
section
variable {P:Program} {w w0:Wd} {S:NP} {rs:List HP} {put:HP->List HP} {σ:St} {R:Value->Wd->Prop} {us:LV} {a b k E:Nat} {T:Td}
def fB [Agg P T k] (H:Sep w0 S rs w) (hx:σ a=.pointer (some ⟨b,0,none⟩):=by exact rfl) (hat:At rs (blk b us E) put:=by exact aT) (hk:us.length=k:=by exact rfl):
    qJ P σ w [.cell a T] [.agg us.toArray]:=
  ⟨_,_,_,rfl,hx,mP (k:=k) (H.obj hat) (us:=us) (by rw[zdd,<-hk,zbr]) hk,rfl⟩
def bE [Agg P T k] {t:Nat} (H:Sep w0 S rs w) (hx:σ a=.pointer (some ⟨b,0,none⟩):=by exact rfl) (hat:At rs (blk b us E) put:=by exact aT) (hk:us.length=k:=by exact rfl) (hv:σ t=v:=by exact rfl):
    qJ P σ w [.cell a T,.tmp t] [.agg us.toArray,v]:=
  ⟨_,_,_,rfl,hx,mP (k:=k) (H.obj hat) (us:=us) (by rw[zdd,<-hk,zbr]) hk,_,by subst hv;rfl,rfl⟩
end
instance:je aD 2:=⟨λ_=>rfl⟩
instance:je ah 3:=⟨λ_=>rfl⟩
instance:je aM 3:=⟨λ_=>rfl⟩
instance:je aP 7:=⟨λ_=>rfl⟩
def aJ {α:Type} (w:Wd) (v:Value) (enc:α->LV) (k:Nat) (l:List α):Prop:=∃A c,v=.slice A l.length c/\(l.length<=c/\c<=9223372036854775807)/\Rd w A enc k l
variable {cols:List bY} {r:List aC} {vc:Value} {n:Int}
def aJ.keep {α:Type} {w w':Wd} {v:Value} {enc:α->LV} {k:Nat} {l:List α} (h:aJ w v enc k l) (hk:Kept noB w w'):aJ w' v enc k l:=by
 obtain⟨A,c,h1,h2,h3⟩:=h;exact⟨A,c,h1,h2,h3.keep hk⟩
section
attribute [local irreducible] FW FL FG FGn jK jO fI lU Qfn Gives
section
def qN (cols:List bY) (r:List aC) (i:Nat):Int:=((((cols.zip r).drop i).map λp=>gJ p.1.type p.2).find? (λe=>decide (e≠0))).getD 0
def Cb (h:cols.length=r.length):fH cols r=qN cols r 0:=by
 unfold fH qN;rw[zab oM,zdd]
def EC (h:r.length<=i):qN cols r i=0:=by
 unfold qN;rw[zbv (by rw[List.length_zip];omega)];rfl
def xJ {a:bY} {c:aC} (ha:cols[i]? =some a) (hc:r[i]? =some c):qN cols r i=if gJ a.type c≠0 then gJ a.type c else qN cols r (i+1):=by
 have hz:(cols.zip r)[i]? =some (a,c):=by rw[List.getElem?_zip_eq_some];exact⟨ha,hc⟩
 have hl:=fO hz;unfold qN;rw[zbn hl];have he:(cols.zip r)[i]=(a,c):=by rw[zaa hl]at hz;injection hz
 rw[he,zav,zch]
 by_cases h:gJ a.type c=0<;>simp[h]
def get_some {α:Type} {l:List α} {i:Nat} (h:i<l.length): ∃c,l[i]? =some c:=⟨l[i],zaa h⟩
attribute [local irreducible] gJ
section
variable {w:Wd}
def Oj {vr:Value} (hc:aJ w vc aP 7 cols) (hr:aJ w vr ah 3 r):Rk Tryz.prog 105 [vc,vr] w (I (fH cols r)):=by
 obtain⟨A,m,rfl,⟨hm,om⟩,hA⟩:=hc;obtain⟨C,n,rfl,⟨hn,hn'⟩,hC⟩:=hr;have H:=Sep.aF w;refine bQ Tryz.func105 ?_;refine Cz (λk=>?_) (λk=>?_)
 .have bT:fH cols r=100:=zac oM
  refine Zb1 ?_;exact⟨by rw[bT];rfl,H.kept⟩
 have hlen:cols.length=r.length:=oM;have Yy:=Cb hlen;refine Zb1 ?_;refine aI (λi:Nat=>[(0,.slice A cols.length m),(1,.slice C r.length n),(5,I i)]) (λi w'=>(i<=r.length/\fH cols r=qN cols r i)/\Sep w noB [] w') (λi _=>r.length-i) 0 tR ⟨⟨zak _,Yy⟩,H⟩ (λi τ _ hI=>?_);obtain⟨⟨hi,dJ⟩,k⟩:=hI;refine Lp ?_;refine Cz (λS=>?_) (λS=>?_)
 .have aS:i<r.length:=oM
  have asO:i<cols.length:=oM;obtain⟨a,ha⟩:=get_some asO;obtain⟨c,hc⟩:=get_some aS;have D7:=xJ ha hc;refine Dz (λS _ b=>?_);refine Zb4 ?_;refine Gl S 4 rfl rfl (Gives.EB (us:=aD _) rfl b (by assumption) (by assumption) rfl rfl) (Zb4 ?_);refine dB S 9 _ b (aeL a.type c) (h:=λ_ b _=>⟨sT,?_⟩);refine Cz (λS=>?_) (λS=>?_)
  .have bT:fH cols r=gJ a.type c:=by rw[dJ,D7,zac S]
   refine Zb2 ?_;exact⟨by rw[bT];rfl,b.kept⟩
  have hst':fH cols r=qN cols r (i+1):=by rw[dJ,D7,zab S]
  refine Zb3 ?_;exact aj (i+1) tR ⟨⟨oM,hst'⟩,b⟩ oM
 have bT:fH cols r=0:=dJ.trans (EC oM);refine Zb1 ?_;exact⟨by rw[bT];rfl,k.kept⟩
end
end
section
def dF (kind:Int):Nat:=if 1<=kind/\kind<=6 then 0 else if kind=10\/kind=15\/kind=16\/kind=18 then 1 else 2
def Dk {x:bI} (h:dP x=true):dF x.kind=dA x.kind:=by
 have hk:1<=x.kind:=by
  unfold dP at h
  repeat' split at h
  all_goals first | omega | (have:=zbd h;omega)
 unfold dF dA
 by_cases h7:x.kind<7
 .rw[zac oM,zac h7]
 rw[zab oM,zab h7]
section
variable {w:Wd}
def Ol (k:Int):aR prog 100 [I k] w λv w'=>v=I (dF k)/\w=w':=by
 have H:=Sep.aF w;refine cK func100 ?_;refine Cz (λS=>?_) (λS=>?_)
 .refine Sk (dQ (zaw Value.bool (zap S)) ?_)
  refine Zb1 ?_;exact⟨by unfold dF;rw[zac oM];rfl,rfl⟩
 refine Cz (λS=>?_) (λS=>?_)
 .refine Sk (dQ (zaw Value.bool (zap S)) ?_)
  refine Zb1 ?_;exact⟨by unfold dF;rw[zac oM];rfl,rfl⟩
 refine Cz (λS=>?_) (λS=>?_)
 .refine Sk (dQ (zaw Value.bool (zap S)) ?_)
  refine Zb1 ?_;exact⟨by unfold dF;rw[zac oM];rfl,rfl⟩
 refine Cz (λS=>?_) (λS=>?_)
 .refine Sk (dQ (zaw Value.bool (zap S)) ?_)
  refine Zb1 ?_;exact⟨by unfold dF;rw[zac oM];rfl,rfl⟩
 refine Cz (λS=>?_) (λS=>?_)
 .refine Sk (dQ (zaw Value.bool (zap S)) ?_)
  refine Zb1 ?_;exact⟨by unfold dF;rw[zac oM];rfl,rfl⟩
 refine Cz (λS=>?_) (λS=>?_)
 .refine Zb1 ?_
  exact⟨by unfold dF;rw[zac oM];rfl,rfl⟩
 refine Cz (λS=>?_) (λS=>?_)
 .refine Sk (dQ (zaw Value.bool (zap S)) ?_)
  refine Zb1 ?_;exact⟨by unfold dF;rw[zab oM,zac oM];rfl,rfl⟩
 refine Cz (λS=>?_) (λS=>?_)
 .refine Sk (dQ (zaw Value.bool (zap S)) ?_)
  refine Zb1 ?_;exact⟨by unfold dF;rw[zab oM,zac oM];rfl,rfl⟩
 refine Cz (λS=>?_) (λS=>?_)
 .refine Sk (dQ (zaw Value.bool (zap S)) ?_)
  refine Zb1 ?_;exact⟨by unfold dF;rw[zab oM,zac oM];rfl,rfl⟩
 refine Cz (λS=>?_) (λS=>?_)
 .refine Zb1 ?_
  exact⟨by unfold dF;rw[zab oM,zac oM];rfl,rfl⟩
 refine Zb1 ?_;exact⟨by unfold dF;rw[zab oM,zab oM];rfl,rfl⟩
def aeN (x:bI):Rk prog 101 [agg (aM x)] w (.bool (dP x)):=by
 have H:=Sep.aF w;refine cK func101 ?_;refine Sr (bB H (h:=λb1 _ k _=>?_));refine Cz (λS=>?_) (λS=>?_)
 .refine Sz (λS=>?_) (λS=>?_)
  .refine Sz (λS=>?_) (λS=>?_)
   .refine Zb5 ?_
    exact⟨jh (by first | (unfold dP;simp_all;done) | (simp_all;done) | (unfold dP;simp_all;omega)),k.kept⟩
   refine Zb2 ?_;exact⟨jh (by first | (unfold dP;simp_all;done) | (simp_all;done) | (unfold dP;simp_all;omega)),k.kept⟩
  refine Zb4 ?_;exact⟨jh (by first | (unfold dP;simp_all;done) | (simp_all;done) | (unfold dP;simp_all;omega)),k.kept⟩
 refine Cz (λS=>?_) (λS=>?_)
 .refine Zb4 ?_
  exact⟨jh (by first | (unfold dP;simp_all;done) | (simp_all;done) | (unfold dP;simp_all;omega)),k.kept⟩
 refine Cz (λS=>?_) (λS=>?_)
 .refine Sz (λS=>?_) (λS=>?_)
  .refine Sz (λS=>?_) (λS=>?_)
   .refine Zb5 ?_
    exact⟨jh (by first | (unfold dP;simp_all;done) | (simp_all;done) | (unfold dP;simp_all;omega)),k.kept⟩
   refine Zb2 ?_;exact⟨jh (by first | (unfold dP;simp_all;done) | (simp_all;done) | (unfold dP;simp_all;omega)),k.kept⟩
  refine Zb4 ?_;exact⟨jh (by first | (unfold dP;simp_all;done) | (simp_all;done) | (unfold dP;simp_all;omega)),k.kept⟩
 refine Cz (λS=>?_) (λS=>?_)
 .refine Sz (λS=>?_) (λS=>?_)
  .refine Sz (λS=>?_) (λS=>?_)
   .refine Kz (Ry x.s oM) (λ_ S _=>?_)
    refine Zb2 ?_;exact⟨jh (by first | (unfold dP;simp_all;done) | (simp_all;done) | (unfold dP;simp_all;omega)),S.kept⟩
   refine Zb2 ?_;exact⟨jh (by first | (unfold dP;simp_all;done) | (simp_all;done) | (unfold dP;simp_all;omega)),k.kept⟩
  refine Zb4 ?_;exact⟨jh (by first | (unfold dP;simp_all;done) | (simp_all;done) | (unfold dP;simp_all;omega)),k.kept⟩
 refine Cz (λS=>?_) (λS=>?_)
 .refine Sz (λS=>?_) (λS=>?_)
  .refine Zb6 ?_
   exact⟨jh (by first | (unfold dP;simp_all;done) | (simp_all;done) | (unfold dP;simp_all;omega)),k.kept⟩
  refine Zb2 ?_;exact⟨jh (by first | (unfold dP;simp_all;done) | (simp_all;done) | (unfold dP;simp_all;omega)),k.kept⟩
 refine Cz (λS=>?_) (λS=>?_)
 .refine Sz (λS=>?_) (λS=>?_)
  .refine Sz (λS=>?_) (λS=>?_)
   .refine Zb3 ?_
    exact⟨jh (by first | (unfold dP;simp_all;done) | (simp_all;done) | (unfold dP;simp_all;omega)),k.kept⟩
   refine Sz (λS=>?_) (λS=>?_)
   .refine Zb7 ?_
    exact⟨jh (by first | (unfold dP;simp_all;done) | (simp_all;done) | (unfold dP;simp_all;omega)),k.kept⟩
   refine Zb4 ?_;exact⟨jh (by first | (unfold dP;simp_all;done) | (simp_all;done) | (unfold dP;simp_all;omega)),k.kept⟩
  refine Zb2 ?_;exact⟨jh (by first | (unfold dP;simp_all;done) | (simp_all;done) | (unfold dP;simp_all;omega)),k.kept⟩
 refine Sz (λS=>?_) (λS=>?_)
 .refine Sz (λS=>?_) (λS=>?_)
  .refine Sz (λS=>?_) (λS=>?_)
   .refine Zb5 ?_
    exact⟨jh (by first | (unfold dP;simp_all;done) | (simp_all;done) | (unfold dP;simp_all;omega)),k.kept⟩
   refine Zb2 ?_;exact⟨jh (by first | (unfold dP;simp_all;done) | (simp_all;done) | (unfold dP;simp_all;omega)),k.kept⟩
  refine Zb4 ?_;exact⟨jh (by first | (unfold dP;simp_all;done) | (simp_all;done) | (unfold dP;simp_all;omega)),k.kept⟩
 refine Zb6 ?_;exact⟨jh (by first | (unfold dP;simp_all;done) | (simp_all;done) | (unfold dP;simp_all;omega)),k.kept⟩
end
def KT (cols:List bY) (n:Int):Int:=match og cols n with | some i=>i | none=> -1
def aeO (h: ∀(j:Nat) a,cols[j]? =some a->a.id≠n):og cols n=none:=by
 unfold og;rw[zcx];intro a ha;obtain⟨j,hj⟩:=zdb ha;simpa using h j a hj
def aeP {a:bY} (hi:cols[i]? =some a) (he:a.id=n) (h: ∀(j:Nat) a,j<i->cols[j]? =some a->a.id≠n):og cols n=some i:=by
 have hl:=fO hi;have hia:cols[i]=a:=by rw[zaa hl]at hi;injection hi
 unfold og;rw[zcu];refine⟨hl,by simp[hia,he],λj hj=>?_⟩;have:=h j cols[j] hj (zaa oM);simpa using this
def ahO (h:KT cols n<0):og cols n=none:=by
 unfold KT at h
 split at h
 .omega
 assumption
def aeQ (h: ¬KT cols n<0): ∃i,og cols n=some i/\KT cols n=(i:Int):=by
 unfold KT at h ⊢;cases e:og cols n with
 | none=>rw[e]at h;simp at h
 | some i=>exact⟨i,rfl,rfl⟩
def Gi {i:Nat} (h:og cols n=some i):i<cols.length:=by
 unfold og at h;rw[zcu]at h;exact h.1
section
variable {w:Wd}
def KE (n:Int) (hc:aJ w vc aP 7 cols):Rk prog 147 [vc,I n] w (I (KT cols n)):=by
  obtain⟨A,m,rfl,⟨hm,om⟩,hA⟩:=hc;have H:=Sep.aF w;refine bQ func147 ?_;refine Zb2 ?_;refine aI (λi:Nat=>[(0,.slice A cols.length m),(1,I n),(5,I i)]) (λi w'=>(i<=cols.length/\∀(j:Nat) a,j<i->cols[j]? =some a->a.id≠n)/\Sep w noB [] w') (λi _=>cols.length-i) 0 tR ⟨⟨zak _,λj a hj=>oM⟩,H⟩ (λi τ w4 hI=>?_);obtain⟨⟨hi,dJ⟩,H4⟩:=hI;refine Lp ?_;refine Cz (λhc9=>?_) (λhc9=>?_)
  . have aS:i<cols.length:=oM
    obtain⟨a,ha⟩:=get_some aS;refine Cz (λIe=>?_) (λIe=>?_)
    . have bT:KT cols n=i:=by
        unfold KT;rw[aeP ha Ie dJ]
      refine Zb2 ?_;exact⟨by rw[bT];rfl,H4.kept⟩
    have hst': ∀(j:Nat) a,j<i+1->cols[j]? =some a->a.id≠n:=by
      intro j b hj hb
      rcases zdm j i with h | h
      . exact dJ j b h hb
      have :j=i:=by omega
      subst this;rw[ha]at hb;injection hb with hb;subst hb;exact Ie
    refine Zb3 ?_;exact aj (i+1) tR ⟨⟨oM,hst'⟩,H4⟩ oM
  have bT:KT cols n= -1:=by
    unfold KT;rw[aeO λj a hj=>dJ j a (by have:=fO hj;omega) hj]
  refine Zb1 ?_;exact⟨by rw[bT];rfl,H4.kept⟩
def iU (b:Bool):Rk prog 219 [.bool b] w (agg (ah (gW b))):=by
 have H:=Sep.aF w;refine oV func219 ?_;refine Az (λb1 _ _ _=>?_);refine Za1 ?_;refine Qn (Cd rfl (λk=>?_) (λk=>?_))
 .refine Sr (Vb (ah (gW true)) ?_)
  refine Tz (λ_ k=>?_);refine Zb0 ?_;refine⟨_,fB k,?_⟩;exact⟨by simp_all[agg];rfl,k.kept⟩
 refine Zb0 ?_;refine Vb (ah (gW false)) ?_;refine Tz (λ_ k=>?_);refine Zb0 ?_;refine⟨_,fB k,?_⟩;exact⟨by simp_all[agg];rfl,k.kept⟩
end
attribute [local irreducible] nZ
section
variable {w:Wd}
def aeR (x:bI) (hc:aJ w vc aP 7 cols):Rk prog 102 [vc,agg (aM x)] w (.tuple #[agg (aD ((qL cols x).getD gT)),.bool (qL cols x).isSome]):=by
 have OM:=hc;obtain⟨A,m,rfl,⟨hm,om⟩,hA⟩:=hc;have H:=Sep.aF w;obtain⟨res,ak⟩: ∃res,res=qL cols x:=⟨_,rfl⟩;rw[<-ak];unfold qL at ak;refine sQ func102 ?_;refine Sr (bB H (h:=λb1 _ _ _=>?_));refine Az (λb3 _ k _=>?_);refine Cz (λS=>?_) (λS=>?_)
 .rw[zac S]at ak
  refine Kz (KE x.n (OM.keep k.kept)) (λ_ k _=>?_);refine Sz (λI=>?_) (λI=>?_)
  .have bT:res=none:=by rw[ak,ahO I]
   refine Zb1 ?_;refine Vb (aD gT) ?_;refine Tz (λ_ b=>?_);refine Zb1 ?_;refine⟨_,bE b,?_⟩;exact⟨by first | (rw[bT];rfl) | (rw[ak];rfl),b.kept⟩
  obtain⟨i,hf,hI⟩:=aeQ I;have aS:=Gi hf;obtain⟨a,ha⟩:=get_some aS;have hgd:cols.getD i ⟨0,[],gT,cell0⟩=a:=by rw[zax,ha];rfl
  rw[hf]at ak;dsimp only at ak;rw[hgd]at ak;rw[hI];refine Zb4 ?_;refine Vv (Gives.EB (us:=aD _) rfl k (by assumption) (by assumption) rfl rfl) (On ?_);refine Kz (UA _) (λ_ b _=>?_);refine Za2 ?_;refine Qn (Cd rfl (λI=>?_) (λI=>?_))
  .have bT:res=none:=by rw[ak,zac (by simpa using I)]
   refine Sr (Vb (aD gT) ?_);refine Tz (λ_ k=>?_);refine Zb1 ?_;refine⟨_,bE k,?_⟩;exact⟨by first | (rw[bT];rfl) | (rw[ak];rfl),k.kept⟩
  rw[zab (by simpa using I)]at ak;refine Zb4 ?_;refine Vv (Gives.EB (us:=aD _) rfl b (by assumption) (by assumption) rfl rfl) (Az (λb52 _ _ _=>?_));refine Tz (λ_ k=>?_);refine Cz (λI=>?_) (λI=>?_)
  .rw[zac I]at ak
   obtain⟨t,ht⟩: ∃t,t=bM.mk 3 a.type.null:=⟨_,rfl⟩;rw[<-ht]at ak;refine Zb1 ?_;refine rY k (cs':=aD t) (hs:=by rw[ht];rfl) (h:=λ_ _=>?_);refine Tz (λ_ b=>?_);refine Zb1 ?_;refine⟨_,bE b,?_⟩;exact⟨by first | (rw[bT];rfl) | (rw[ak];rfl),b.kept⟩
  rw[zab I]at ak;obtain⟨t,ht⟩: ∃t,t=a.type:=⟨_,rfl⟩;rw[<-ht]at ak k;refine Tz (λ_ b=>?_);refine Zb1 ?_;refine⟨_,bE b,?_⟩;exact⟨by first | (rw[bT];rfl) | (rw[ak];rfl),b.kept⟩
 rw[zab S]at ak;refine Cz (λb=>?_) (λb=>?_)
 .rw[zac b]at ak
  refine Sr (Vb (aD ⟨3,false⟩) ?_);refine Tz (λ_ S=>?_);refine Zb1 ?_;refine⟨_,bE S,?_⟩;exact⟨by first | (rw[bT];rfl) | (rw[ak];rfl),S.kept⟩
 rw[zab b]at ak;refine Cz (λS=>?_) (λS=>?_)
 .rw[zac S]at ak
  refine Sr (Vb (aD ⟨1,false⟩) ?_);refine Tz (λ_ b=>?_);refine Zb1 ?_;refine⟨_,bE b,?_⟩;exact⟨by first | (rw[bT];rfl) | (rw[ak];rfl),b.kept⟩
 rw[zab S]at ak;refine Cz (λb=>?_) (λb=>?_)
 .rw[zac b]at ak
  refine Sr (Vb (aD ⟨4,false⟩) ?_);refine Tz (λ_ S=>?_);refine Zb1 ?_;refine⟨_,bE S,?_⟩;exact⟨by first | (rw[bT];rfl) | (rw[ak];rfl),S.kept⟩
 rw[zab b]at ak;refine Cz (λS=>?_) (λS=>?_)
 .rw[zac S]at ak
  refine Sr (Vb (aD ⟨5,false⟩) ?_);refine Tz (λ_ b=>?_);refine Zb1 ?_;refine⟨_,bE b,?_⟩;exact⟨by first | (rw[bT];rfl) | (rw[ak];rfl),b.kept⟩
 rw[zab S]at ak;refine Zb2 ?_;refine Vb (aD ⟨x.n,true⟩) ?_;refine Tz (λ_ b=>?_);refine Zb1 ?_;refine⟨_,bE b,?_⟩;exact⟨by first | (rw[bT];rfl) | (rw[ak];rfl),b.kept⟩
end
end
def lH {res:Option bM} {t:bM} {ok:Bool} (h:res=if ok=true then some t else none): ∃t',Value.tuple #[agg (aD t),.bool ok]=.tuple #[agg (aD t'),.bool res.isSome]/\∀x,res=some x->t'=x:=by
 subst h;refine⟨t,by cases ok<;>rfl,λx hx=>?_⟩;cases ok
 .cases hx
 injection hx
section
variable {w:Wd}
def XY (a b:Int) (ha:fits a) (hb:fits b):aR prog 220 [I a,I b] w λv w'=>v=.tuple #[I (if aW (a+b)=true then a+b else 0),.bool (aW (a+b))]/\w=w':=by
 have H:=Sep.aF w;obtain⟨UH,UW⟩:=ha;obtain⟨EL,hb2⟩:=hb;refine bQ func220 ?_;refine Sz (λk=>?_) (λk=>?_)
 .refine Zb2 ?_
  refine Vc (9223372036854775807-b) ?_;refine Sz (λk=>?_) (λk=>?_)
  .refine Zb3 ?_
   have hf:aW (a+b)=false:=zal oM;exact⟨by rw[hf];rfl,rfl⟩
  refine Sz (λk=>?_) (λk=>?_)
  .refine Zb2 ?_
   refine Vc (-9223372036854775808-b) ?_;refine Cz (λk=>?_) (λk=>?_)
   .have hf:aW (a+b)=false:=zal oM
    refine Zb2 ?_;have hf:aW (a+b)=false:=zal oM;exact⟨by rw[hf];rfl,rfl⟩
   have hf:aW (a+b)=true:=zap oM;refine Zb2 ?_;have hf:aW (a+b)=true:=zap oM;refine Vc (a+b) ?_;refine Zb2 ?_;exact⟨by rw[hf];rfl,rfl⟩
  refine Zb4 ?_;have hf:aW (a+b)=true:=zap oM;refine Vc (a+b) ?_;refine Zb2 ?_;exact⟨by rw[hf];rfl,rfl⟩
 refine Sz (λk=>?_) (λk=>?_)
 .refine Zb2 ?_
  refine Vc (-9223372036854775808-b) ?_;refine Cz (λk=>?_) (λk=>?_)
  .have hf:aW (a+b)=false:=zal oM
   refine Zb2 ?_;have hf:aW (a+b)=false:=zal oM;exact⟨by rw[hf];rfl,rfl⟩
  have hf:aW (a+b)=true:=zap oM;refine Zb2 ?_;have hf:aW (a+b)=true:=zap oM;refine Vc (a+b) ?_;refine Zb2 ?_;exact⟨by rw[hf];rfl,rfl⟩
 refine Zb4 ?_;have hf:aW (a+b)=true:=zap oM;refine Vc (a+b) ?_;refine Zb2 ?_;exact⟨by rw[hf];rfl,rfl⟩
def aeS (k:Int) (a b:bM):aR prog 103 [I k,agg (aD a),agg (aD b)] w λv w'=>(∃t,v=.tuple #[agg (aD t),.bool (vG k a b).isSome]/\∀x,vG k a b=some x->t=x)/\Kept noB w w':=by
 have H:=Sep.aF w;obtain⟨res,ak⟩: ∃res,res=vG k a b:=⟨_,rfl⟩;rw[<-ak];unfold vG at ak;refine zX func103 ?_;refine Sr (bB H (h:=λb1 _ S _=>?_));refine bB S (h:=λb3 _ _ _=>?_);refine Az (λb5 _ S _=>?_);refine Am ?_;refine Qn (dD (λz:Bool=>[(0,I k),(4,.pointer (some ⟨b1,0,none⟩)),(5,.pointer (some ⟨b3,0,none⟩)),(6,.pointer (some ⟨b5,0,none⟩)),(7,.bool false),(8,.bool z)]) (λz w'=>z=(a.null||b.null)/\Sep w noB [blk b5 (aD gT) 65,blk b3 (aD b) 65,blk b1 (aD a) 65] w') ?_ ?_)
 .refine Zb3 ?_
  refine dH (t:=13) rfl (λc=>?_) (λc=>?_)
  .refine Zb2 ?_
   exact au _ tR ⟨by simp[*],S⟩
  refine Zb4 ?_;exact au _ tR ⟨by simp[*],S⟩
 rintro nn τ c ⟨tu,c⟩;refine Lp ?_;refine dD (λz:Bool=>[(0,I k),(4,.pointer (some ⟨b1,0,none⟩)),(5,.pointer (some ⟨b3,0,none⟩)),(6,.pointer (some ⟨b5,0,none⟩)),(7,.bool false),(8,.bool nn),(9,.bool z)]) (λz w'=>z=decide (a.kind=3/\b.kind=3)/\Sep w noB [blk b5 (aD gT) 65,blk b3 (aD b) 65,blk b1 (aD a) 65] w') ?_ ?_
 .refine Sz (λS=>?_) (λS=>?_)
  .refine Zb5 ?_
   exact au _ tR ⟨by simp[*],c⟩
  refine Zb2 ?_;exact au _ tR ⟨by simp[*],c⟩
 rintro n3 τ S ⟨hn3,S⟩;refine Lp ?_;refine dD (λz:Bool=>[(0,I k),(4,.pointer (some ⟨b1,0,none⟩)),(5,.pointer (some ⟨b3,0,none⟩)),(6,.pointer (some ⟨b5,0,none⟩)),(7,.bool false),(8,.bool nn),(9,.bool n3),(10,.bool z)]) (λz w'=>z=decide (a.kind=1/\b.kind=1)/\Sep w noB [blk b5 (aD gT) 65,blk b3 (aD b) 65,blk b1 (aD a) 65] w') ?_ ?_
 .refine Sz (λc=>?_) (λc=>?_)
  .refine Zb5 ?_
   exact au _ tR ⟨by simp[*],S⟩
  refine Zb2 ?_;exact au _ tR ⟨by simp[*],S⟩
 rintro n1 τ c ⟨Ag,c⟩;refine Lp ?_;refine Cz (λc=>?_) (λc=>?_)
 .refine Sk (dQ (zaw Value.bool (zap c)) ?_)
  refine Zb1 ?_;refine Vb (aD ⟨3,nn⟩) ?_;refine Mv ?_;refine Tz (λ_ c=>?_);refine Zb1 ?_;exact⟨_,bE c,lH (t:=⟨3,nn⟩) (ok:=n3) (by rw[ak,zac oM,tu,hn3];simp only[decide_eq_true_eq]),c.kept⟩
 refine Cz (λc=>?_) (λc=>?_)
 .refine Sk (dQ (zaw Value.bool (zap c)) ?_)
  refine Zb1 ?_;refine Vb (aD ⟨3,nn⟩) ?_;refine Mv ?_;refine Tz (λ_ c=>?_);refine Zb1 ?_;exact⟨_,bE c,lH (t:=⟨3,nn⟩) (ok:=n3) (by rw[ak,zac oM,tu,hn3];simp only[decide_eq_true_eq]),c.kept⟩
 refine Cz (λc=>?_) (λc=>?_)
 .refine Sk (dQ (zaw Value.bool (zap c)) ?_)
  refine Zb1 ?_;refine Vb (aD ⟨3,nn⟩) ?_;refine Mv ?_;refine Tz (λ_ c=>?_);refine Zb1 ?_;exact⟨_,bE c,lH (t:=⟨3,nn⟩) (ok:=n3) (by rw[ak,zac oM,tu,hn3];simp only[decide_eq_true_eq]),c.kept⟩
 refine Cz (λc=>?_) (λc=>?_)
 .refine Zb1 ?_
  refine Vb (aD ⟨3,nn⟩) ?_;refine Mv ?_;refine Tz (λ_ c=>?_);refine Zb1 ?_;exact⟨_,bE c,lH (t:=⟨3,nn⟩) (ok:=n3) (by rw[ak,zac oM,tu,hn3];simp only[decide_eq_true_eq]),c.kept⟩
 refine Cz (λc=>?_) (λc=>?_)
 .refine Sk (dQ (zaw Value.bool (zap c)) ?_)
  refine Dz (λc _ S=>?_);refine Zb1 ?_;refine Gb c 1 (aD ⟨1,nn⟩) ?_;refine Zb5 ?_;refine bN c 7 [(6,true),(5,false),(4,true),(3,false),(2,true)] S (h:=λ_ S=>⟨sL,?_⟩);refine Zb1 ?_;exact⟨_,bE S,lH (t:=⟨1,nn⟩) (ok:=decide (a.kind=b.kind)) (by rw[ak,zab oM,zac oM,tu];simp only[decide_eq_true_eq]),S.kept⟩
 refine Cz (λS=>?_) (λS=>?_)
 .refine Dz (λS _ c=>?_)
  refine Zb1 ?_;refine Gb S 1 (aD ⟨1,nn⟩) ?_;refine Zb5 ?_;refine bN S 7 [(6,true),(5,false),(4,true),(3,false),(2,true)] c (h:=λ_ c=>⟨sL,?_⟩);refine Zb1 ?_;exact⟨_,bE c,lH (t:=⟨1,nn⟩) (ok:=decide (a.kind=b.kind)) (by rw[ak,zab oM,zac oM,tu];simp only[decide_eq_true_eq]),c.kept⟩
 refine Cz (λc=>?_) (λc=>?_)
 .refine Sk (dQ (zaw Value.bool (zap c)) ?_)
  refine Zb1 ?_;refine Vb (aD ⟨1,nn⟩) ?_;refine Mv ?_;refine Tz (λ_ c=>?_);refine Zb1 ?_;exact⟨_,bE c,lH (t:=⟨1,nn⟩) (ok:=n1) (by rw[ak,zab oM,zab oM,zac oM,tu,Ag];simp only[decide_eq_true_eq]),c.kept⟩
 refine Cz (λc=>?_) (λc=>?_)
 .refine Sk (dQ (zaw Value.bool (zap c)) ?_)
  refine Zb1 ?_;refine Vb (aD ⟨1,nn⟩) ?_;refine Mv ?_;refine Tz (λ_ c=>?_);refine Zb1 ?_;exact⟨_,bE c,lH (t:=⟨1,nn⟩) (ok:=n1) (by rw[ak,zab oM,zab oM,zac oM,tu,Ag];simp only[decide_eq_true_eq]),c.kept⟩
 refine Cz (λc=>?_) (λc=>?_)
 .refine Zb1 ?_
  refine Vb (aD ⟨1,nn⟩) ?_;refine Mv ?_;refine Tz (λ_ c=>?_);refine Zb1 ?_;exact⟨_,bE c,lH (t:=⟨1,nn⟩) (ok:=n1) (by rw[ak,zab oM,zab oM,zac oM,tu,Ag];simp only[decide_eq_true_eq]),c.kept⟩
 refine Cz (λc=>?_) (λc=>?_)
 .refine Sr (Vb (aD ⟨1,false⟩) ?_)
  refine Tz (λ_ c=>?_);refine Zb1 ?_;exact⟨_,bE c,lH (t:=⟨1,false⟩) (ok:=true) (by rw[ak,zab oM,zab oM,zab oM,zac oM];rfl),c.kept⟩
 refine Cz (λc=>?_) (λc=>?_)
 .refine Dz (λc _ S=>?_)
  refine Zb5 ?_;refine F7 (t:=68) rfl (λd=>?_) (λd=>?_)
  .have hny:(a.null&&b.null)=b.null:=by rw[d];rfl
   refine Zb3 ?_;refine Gb c 8 (aD ⟨a.kind,b.null⟩) ?_;refine Zb5 ?_;refine bN c 14 [(13,true),(12,false),(11,true),(10,false),(9,true)] S (h:=λ_ e=>⟨sL,?_⟩);refine Zb1 ?_;exact⟨_,bE e,lH (t:=⟨a.kind,b.null⟩) (ok:=decide (a.kind=b.kind)) (by rw[ak,zab oM,zab oM,zab oM,zab oM,zac oM,hny];simp only[decide_eq_true_eq]),e.kept⟩
  have hny:(a.null&&b.null)=false:=by rw[d];rfl
  refine Zb1 ?_;refine Gb c 8 (aD ⟨a.kind,false⟩) ?_;refine Zb5 ?_;refine bN c 14 [(13,true),(12,false),(11,true),(10,false),(9,true)] S (h:=λ_ e=>⟨sL,?_⟩);refine Zb1 ?_;exact⟨_,bE e,lH (t:=⟨a.kind,false⟩) (ok:=decide (a.kind=b.kind)) (by rw[ak,zab oM,zab oM,zab oM,zab oM,zac oM,hny];simp only[decide_eq_true_eq]),e.kept⟩
 refine Dz (λe _ d=>?_);refine Zb1 ?_;refine Gb e 1 (aD ⟨3,nn⟩) ?_;refine Zb4 ?_;refine fM (t:=83) rfl (λS=>?_) (λS=>?_)
 .refine Zb1 ?_
  refine bN e 10 _ d (h:=λ_ S=>⟨sT,?_⟩);refine Zb1 ?_;exact⟨_,bE S,lH (t:=⟨3,nn⟩) (ok:=true) (by rw[ak,zab oM,zab oM,zab oM,zab oM,zab oM,tu,zac (.inl (by assumption))];rfl),S.kept⟩
 refine Zb4 ?_;refine bN e 10 [(9,true),(8,true),(7,false),(6,true)] d (h:=λ_ S=>⟨sL,?_⟩);refine Zb1 ?_;exact⟨_,bE S,lH (t:=⟨3,nn⟩) (ok:=decide (a.kind=5)) (by rw[ak,zab oM,zab oM,zab oM,zab oM,zab oM,tu];simp[*]),S.kept⟩
end
end
variable {z:Value}
def aY {α:Type} (e k:Nat) (enc:α->LV) (v:Value) (l:List α):HP:=uR e k v l.length (l.flatMap enc)
section
variable {α:Type} {enc:α->LV} {k e:Nat} {l news:List α} {A:OA} {w w' w0:Wd} {S:NP} {rs:List HP} {put:HP->List HP} {v:Value}
def Sep.iW (H:Sep w0 S rs w) (e k:Nat) (enc:α->LV):Sep w0 S (aY e k enc (.slice none 0 0) []::rs) w:=H.fT e k
def Sep.bJ (H:Sep w0 S rs w) (hat:At rs (aY e k enc v l) put): ∃A c,v=.slice A l.length c/\l.length<=c/\Rd w A enc k l:=by
 obtain⟨A,c,hv,rG,_,_⟩:=Sep.xq H hat;subst hv;exact⟨A,c,rfl,rG,Sep.rowAt H hat⟩
def JK (hk: ∀x,(enc x).length=k): ∀(l:List α) (m:Nat),(l.take m).flatMap enc=(l.flatMap enc).take (m*k)
 | _,0=>sM
 | [],m+1=>sM
 | a::l,m+1=>by
  rw[zcy,zbh,zbh,JK hk l m,List.take_append,hk,zeg,zgd,zaj (l:=enc a) (by rw[hk];omega)]
def Sep.aom [hk:je enc k] {c m:Nat} (H:Sep w0 S rs w) (hat:At rs (aY e k enc (.slice A l.length c) l) put) (hm:m<=l.length):Sep w0 S (put (aY e k enc (.slice A m c) (l.take m))) w:=by
 refine H.imp hat λF hF=>?_;obtain⟨⟨h1,h2⟩,h3⟩:=hF;have hlm:(l.take m).length=m:=by rw[zah];omega
 refine⟨?_,λb=>by rw[h3 b];cases A<;>simp[Value.ownBlock]⟩;show w.ownsRow 0 e k _ (l.take m).length ((l.take m).flatMap enc)
 rw[hlm,JK hk.len];refine⟨by rw[zah,h1];exact zdc (zex k hm),?_⟩
 rcases h2 with⟨hv,h0⟩ | ⟨g,cap,cur,hv,hg,hh,rG,hmax,OB,xY⟩
 .injection hv with ha hb hc
  subst ha;subst hc
  left
  have :m=0:=by omega
  subst this;exact⟨rfl,rfl⟩
 injection hv with ha hb hc
 subst ha;subst hc;refine .inr ⟨g,c,cur,rfl,hg,hh,oM,hmax,OB,?_⟩;rw[<-xY,List.take_take,zdc (zex k hm)]
def DX {P:Program} {ρ:Od->Value} {ty:Td} {x y:Od} {t b c bytes:Nat} [hs:cO P t e] [hc:Cells P e k bytes] [hz:Zero P e z] [hk:je enc k]
    (H:Sep w0 S (blk b (news.flatMap enc) e::rs) w) (hx:ρ x=v) (hy:ρ y=.slice (some ⟨b,0,none⟩) c c) (hc':c=news.length) (hat:At rs (aY e k enc v l) put) (qy: ∀u∈news.flatMap enc,u.oneCell'=true)
    (y8:0<k) (D5:z.cells.size=k) (h63:l.length+news.length<=maxLen) (hbytes:(l.length+news.length)*bytes<=140737488355328):
    ∃v' w',Gives P ρ (.call {callee:=.builtin .append,args:= #[x,y],argTypes:= #[t,t]}) ty w v' w'/\Sep w0 S (put (aY e k enc v' (l++news))) w':=by
  subst hc';have hr:gY w (some ⟨b,0,none⟩) news.length k (news.flatMap enc):=Sep.lK H At0 (jq hk.len news);have H2:=H.bH;obtain⟨F,hp,_,_⟩:=H2.focus hat;obtain⟨v',w',iq,oq,hg,hb⟩:=uS (P:=P) (ty:=ty) t e (z:=z) y8 D5 v l.length (l.flatMap enc) hp.1 (some ⟨b,0,none⟩) news.length news.length (news.flatMap enc) hr qy h63 hbytes;refine⟨v',w',λ_ _ _ _=>?_,?_⟩
  . simp only[execOp,resolve,invoke,builtin,zbi,zbl,zam,zcc,zav,zcl,hx,hy,iq]
  refine H2.CS hat hg ?_ (by rcases hb with e | e<;>simp[e]);rw[<-zbt]at oq;rw[zad];exact oq
end
section
variable {P:Program} {r:Option Nat} {n:Nat} {ops:AO} {Q:Post} {rest:LO} {σ:St} {w w' w0:Wd} {S:NP} {rs:List HP} {put:HP->List HP} {ty:Td} {pos:String} {after:Array Edge} {guard:Option (Nat×Bool)} {lv:List Bool} {pd:LNB} {α:Type} {enc:α->LV} {k e:Nat} {l news:List α} {v:Value}
def dG {x y:Od} {t b c:Nat} [hs:cO P t e] [hc:Cells P e k bytes] [hz:Zero P e z] [hk:je enc k]
    (H:Sep w0 S (blk b (news.flatMap enc) e::rs) w) (hat:At rs (aY e k enc v l) put) (h63:l.length+news.length<=maxLen) (hbytes:(l.length+news.length)*bytes<=140737488355328) (qy: ∀u∈news.flatMap enc,u.oneCell'=true)
    (hx:evF σ x=v:=by exact rfl) (hy:evF σ y=.slice (some ⟨b,0,none⟩) c c:=by exact rfl) (hc':c=news.length:=by exact rfl) (y8:0<k:=by decide) (D5:z.cells.size=k:=by exact rfl) (hd:Nat.blt d n=true:=by exact rfl)
    (h: ∀v' w',Sep w0 S (put (aY e k enc v' (l++news))) w'->FL P r n ops Q rest (upd σ d v') w'):
    FL P r n ops Q (⟨some d,.call {callee:=.builtin .append,args:= #[x,y],argTypes:= #[t,t]},ty,pos,after,none⟩::rest) σ w:=by
  obtain⟨v',w',hg,hs'⟩:=DX (P:=P) (t:=t) (ty:=ty) H hx hy hc' hat qy y8 D5 h63 hbytes;exact dw hg hd (h v' w' hs')
def gF (eZ:dS n ops=true) (i:Nat) (pd':LNB) {x y:Od} {t b c:Nat} [hs:cO P t e] [hc:Cells P e k bytes] [hz:Zero P e z] [hk:je enc k]
    (H:Sep w0 S (blk b (news.flatMap enc) e::rs) w) (hat:At rs (aY e k enc v l) put) (h63:l.length+news.length<=maxLen) (hbytes:(l.length+news.length)*bytes<=140737488355328) (qy: ∀u∈news.flatMap enc,u.oneCell'=true)
    (ho:ops[i]? =some ⟨some d,.call {callee:=.builtin .append,args:= #[x,y],argTypes:= #[t,t]},ty,pos,after,guard⟩:=by exact rfl)
    (hw:Region.wanted ⟨some d,.call {callee:=.builtin .append,args:= #[x,y],argTypes:= #[t,t]},ty,pos,after,guard⟩ (bU ops σ)=true:=by kernel_rfl)
    (hx:evF σ x=v:=by exact rfl) (hy:evF σ y=.slice (some ⟨b,0,none⟩) c c:=by exact rfl) (hc':c=news.length:=by exact rfl) (y8:0<k:=by decide) (D5:z.cells.size=k:=by exact rfl)
    (dX:fu ops lv (pd.map (·.1)) i=true:=by kernel_rfl) (oo:pd.filter (λp=> !((above ops i).contains p.1))=pd':=by exact pD)
    (h: ∀v' w',Sep w0 S (put (aY e k enc v' (l++news))) w'->jm P ops (upd σ d v') w' pd'/\FG P r n ops Q (lv.set i true) pd' (upd σ d v') w'):FG P r n ops Q lv pd σ w:=
  uW eZ i pd' ho hw (DX (P:=P) (t:=t) (ty:=ty) H hx hy hc' hat qy y8 D5 h63 hbytes) dX oo h
def tZ (eZ:dS n ops=true) (i:Nat) (pd':LNB) [hz:Zero P T z] {cs:LV} (H:Sep w0 S rs w) (ho:ops[i]? =some ⟨some d,.alloc T,ty,pos,after,guard⟩:=by exact rfl)
    (hw:Region.wanted ⟨some d,.alloc T,ty,pos,after,guard⟩ (bU ops σ)=true:=by kernel_rfl) (hcs:z.cells=cs.toArray:=by exact rfl)
    (dX:fu ops lv (pd.map (·.1)) i=true:=by kernel_rfl) (oo:pd.filter (λp=> !((above ops i).contains p.1))=pd':=by exact pD)
    (h: ∀b w',Sep w0 S (blk b cs T::rs) w'->jm P ops (upd σ d (.pointer (some ⟨b,0,none⟩))) w' pd'/\FG P r n ops Q (lv.set i true) pd' (upd σ d (.pointer (some ⟨b,0,none⟩))) w'):FG P r n ops Q lv pd σ w:=
  uW (C:=λv w'=>∃b,v=.pointer (some ⟨b,0,none⟩)/\Sep w0 S (blk b cs T::rs) w') eZ i pd' ho hw
    ⟨.pointer (some ⟨w.heap.size,0,none⟩),w.alloc (.cells cs.toArray T),λ_ _ _ _=>by simp[execOp,Instr.alloc,hz.run,newVar,newRow,hcs],_,rfl,H.alloc _⟩ dX oo
    (λv w' hv=>by obtain⟨b,rfl,hs⟩:=hv;exact h b w' hs)
end
section
variable {P:Program} {ρ:Od->Value} {ty:Td} {w:Wd} {x y:Od} {α:Type} {enc:α->LV} {k:Nat} {l:List α} {A:OA}
def Gives.Om [hk:je enc k] {i f:Nat} {c:α} [OneCell P T] (hx:ρ x=adr A (i*k+f)) (hr:Rd w A enc k l) (hg:l[i]? =some c) (hv:(enc c)[f]? =some v):Gives P ρ (.load T x) ty w v w:=by
 obtain⟨ad,rfl,h2⟩:=hr.cell hg hv;exact Gives.abO hx h2
def Gives.oW [hk:je enc k] {i:Nat} {c:α} [Agg P T k] (hx:ρ x=adr A (i*k)) (hr:Rd w A enc k l) (hg:l[i]? =some c):Gives P ρ (.load T x) ty w (.agg (enc c).toArray) w:=
 Gives.iH (rs:=[]) hx (Sep.aF w) hr hg
end
def cells_one {α:Type} {enc:α->LV} (h: ∀x,(enc x).all Value.oneCell'=true) (l:List α): ∀u∈l.flatMap enc,u.oneCell'=true:=λu hu=>by
 obtain⟨x,_,hx⟩:=zca.1 hu;exact zaz.1 (h x) u hx
end Go.Proofs.Mw
