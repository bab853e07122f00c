/-
 The document's cells,walked:types,and what a cell may be.
-/
import Derived.Test.YtbfjonalkaophaaGreatDoorNk7
set_option linter.all false
set_option maxRecDepth 4000
namespace Go.Proofs.Mw
open Go.Lib Go.Proofs.Tryz
section
attribute [local irreducible] FW FL FG FGn jX lg gD l7 Qfn ah
def jD {a b:Bool} (h:a=true↔b=true):Value.bool a=.bool b:=zay Value.bool (zdx.2 h)
def ofC (t:bZ) (c:aF):Bool:=if c.null=true then decide (t.null=true/\c.n=0/\c.s=[])else isC t.kind c
def adM (t:bZ) (c:aF):fB t c=if mX t=false then 2 else if ofC t c=false then 90 else 0:=by
 unfold fB ofC
 by_cases f:mX t=false
 .rw[zac f,zac f]
 rw[zab f,zab f]
 by_cases d:c.null=true
 .rw[zac d,zac d]
  have e:(c=cK)=(c.n=0/\c.s=[]):=propext ⟨λh=>by rw[h];exact⟨rfl,rfl⟩,λh=>aF.ext' d h.1 h.2⟩;simp only[e]
  by_cases g:t.null=true/\c.n=0/\c.s=[]
  .rw[zac g,zab (by simp[g])]
  rw[zab g,zac (by simpa using g)]
 rw[zab d,zab d];cases isC t.kind c<;>rfl
section
variable {w:Wd}
def Um (t:bZ):Rk prog 246 [agg (aG t)] w (.bool (mX t)):=by
 have H:=Sep.aI w;refine dL func246 ?_;refine Sr (bK H (h:=λb g f k=>?_));refine Sz (λd=>?_) (λd=>?_)
 .refine V5 ?_
  exact⟨jD (by unfold mX;simp;omega),f.au⟩
 refine V2 ?_;exact⟨jD (by unfold mX;simp;omega),f.au⟩
def akb (t:bZ) (c:aF):Rk prog 322 [agg (aG t),agg (aj c)] w (.bool (ofC t c)):=by
 have H:=Sep.aI w;refine dn func322 ?_;refine Sr (bK H (h:=λG M i K=>?_));refine bK i (h:=λJ N f L=>?_);refine O3 ?_;refine Qn (Cd rfl (λg=>?_) (λg=>?_))
 .have d:ofC t c=decide (t.null=true/\c.n=0/\c.s=[]):=by unfold ofC;rw[zac g]
  refine V3 ?_;refine eO (t:=9) rfl (λm=>?_) (λm=>?_)
  .refine Sz (λo=>?_) (λo=>?_)
   .refine V5 ?_
    exact⟨jD bO,f.au⟩
   refine V2 ?_;exact⟨jD bO,f.au⟩
  refine V4 ?_;exact⟨jD bO,f.au⟩
 have d:ofC t c=isC t.kind c:=by unfold ofC;rw[zab (by rw[g];simp)]
 refine Cz (λk=>?_) (λk=>?_)
 .refine Sz (λq=>?_) (λq=>?_)
  .refine Sz (λu=>?_) (λu=>?_)
   .refine V3 ?_
    exact⟨jD bO,f.au⟩
   refine V6 ?_;exact⟨jD bO,f.au⟩
  refine V2 ?_;exact⟨jD bO,f.au⟩
 refine Cz (λS=>?_) (λS=>?_)
 .refine Sz (λz=>?_) (λz=>?_)
  .refine Sz (λC=>?_) (λC=>?_)
   .refine V5 ?_
    exact⟨jD bO,f.au⟩
   refine V2 ?_;exact⟨jD bO,f.au⟩
  refine V4 ?_;exact⟨jD bO,f.au⟩
 refine Cz (λa=>?_) (λa=>?_)
 .refine V4 ?_
  exact⟨jD bO,f.au⟩
 refine Cz (λb=>?_) (λb=>?_)
 .refine Sz (λD=>?_) (λD=>?_)
  .refine Sz (λSh=>?_) (λSh=>?_)
   .refine Kz (Ra c.s oM) (λO j _=>?_)
    refine V2 ?_;exact⟨jD bO,j.au⟩
   refine V2 ?_;exact⟨jD bO,f.au⟩
  refine V4 ?_;exact⟨jD bO,f.au⟩
 refine Sz (λF=>?_) (λF=>?_)
 .refine V6 ?_
  exact⟨jD bO,f.au⟩
 refine V2 ?_;exact⟨jD bO,f.au⟩
end
end
variable {T:Td}
section
variable {p:Prop} {P:Program} {r:Option Nat} {n:Nat} {ops:AO} {Q:Post} {rest:LO} {σ:St} {w:Wd} {ty:Td} {pos:String} {after:Array Edge} {w0:Wd} {S:NP} {rs:List HP} {put:HP->List HP}
def Tz {b k:Nat} {x y:Od} [Agg P T k] {cs us:LV} {E:Td} (h: ∀w',Sep w0 S (put (blk b us E)) w'->FL P r n ops Q rest σ w') (z:Bx (FL P r n ops Q (⟨none,.store T x y,ty,pos,after,none⟩::rest) σ w)->p:=by exact zP)
    (H:Sep w0 S rs w:=by assumption) (j:evF σ x=.pointer (some ⟨b,0,none⟩):=by exact rfl) (hy:evF σ y=.agg us.toArray:=by exact rfl)
    (d:At rs (blk b cs E) put:=by exact aT) (f:us.length=k:=by exact rfl) (g:cs.length=k:=by exact rfl) (i:us.all Value.oneCell'=true:=by exact rfl):p:=z ⟨iF H j hy d f g i h⟩
end
section
attribute [local irreducible] FW FL FG FGn jX lg gD l7 Qfn ah
section
def yK: ∀a b:L8,Op.bytesLess a b=decide (compareBytes a b= -1)
 | [],[]=>rfl
 | [],_::_=>rfl
 | _::_,[]=>rfl
 | a::x1,b::y1=>by
  rw[Op.bytesLess,compareBytes,yK x1 y1]
  by_cases h:a<b
  .simp[h]
  by_cases d:b<a
  .have :a≠b:=λe=>by subst e;exact h d
   simp[h,d,this]
  have :a=b:=UInt8.le_antisymm (UInt8.not_lt.1 d) (UInt8.not_lt.1 h);subst this;simp[h]
def N7: ∀{a b:L8},compareBytes a b=0->a=b
 | [],[],_=>rfl
 | [],_::_,h=>by cases h
 | _::_,[],h=>by cases h
 | a::x1,b::y1,h=>by
  rw[compareBytes]at h
  by_cases d:a<b
  .rw[zac d]at h;cases h
  by_cases f:b<a
  .rw[zab d,zac f]at h;cases h
  rw[zab d,zab f]at h;rw[N7 h,UInt8.le_antisymm (UInt8.not_lt.1 f) (UInt8.not_lt.1 d)]
def JR: ∀a b:L8,compareBytes a b= -1\/compareBytes a b=0\/compareBytes a b=1
 | [],[]=>.inr (.inl rfl)
 | [],_::_=>.inl rfl
 | _::_,[]=>.inr (.inr rfl)
 | a::x1,b::y1=>by
  rw[compareBytes]
  by_cases h:a<b
  .rw[zac h];exact .inl rfl
  by_cases d:b<a
  .rw[zab h,zac d];exact .inr (.inr rfl)
  rw[zab h,zab d];exact JR x1 y1
def N8: ∀a:L8,compareBytes a a=0
 | []=>rfl
 | a::x1=>by rw[compareBytes,zab (UInt8.lt_irrefl a),zab (UInt8.lt_irrefl a),N8 x1]
def Cb {a b:aF} (f:a.null=b.null) (h:a.n<b.n\/(a.n=b.n/\Op.bytesLess a.s b.s=true)):nV a b= -1:=by
 unfold nV;rw[zac f]
 rcases h with h | ⟨h,d⟩
 .rw[zac h]
 rw[zab oM,zab oM];rw[yK]at d;exact zbe d
def Cc {a b:aF} (d:a≠b) (f:a.null=b.null) (i: ¬a.n<b.n) (j:a.n=b.n->Op.bytesLess a.s b.s=false):nV a b=1:=by
 unfold nV;rw[zac f,zab i]
 by_cases h:b.n<a.n
 .rw[zac h]
 rw[zab h];have e:a.n=b.n:=oM;have g:=j e;rw[yK]at g
 rcases JR a.s b.s with k | k | k
 .exact zas k (of_decide_eq_false g)
 .exact zas (aF.ext' f e (N7 k)) d
 exact k
attribute [local irreducible] mX ofC
section
variable {w:Wd}
def adN (t:bZ) (c:aF):Rk prog 256 [agg (aG t),agg (aj c)] w (I (fB t c)):=by
 have H:=Sep.aI w;refine dn func256 ?_;have f:=adM t c;refine Sr (bK H (h:=λb D m k=>?_));refine bK m (h:=λs F q u=>?_);refine Kz (Um _) (λG o z=>?_);refine O1 ?_;refine Qn (Cd rfl (λg=>?_) (λg=>?_))
 .have d:fB t c=2:=by rw[f,zac (by simpa using g)]
  refine V1 ?_;exact⟨by rw[d];rfl,o.au⟩
 rw[zab (by simpa using g)]at f;refine Kz (akb _ _) (λJ j C=>?_);refine O1 ?_;refine Qn (Cd rfl (λi=>?_) (λi=>?_))
 .have d:fB t c=90:=by rw[f,zac (by simpa using i)]
  refine V1 ?_;exact⟨by rw[d];rfl,j.au⟩
 have d:fB t c=0:=by rw[f,zab (by simpa using i)]
 refine V1 ?_;exact⟨by rw[d];rfl,j.au⟩
def KJ (a b:aF):Rk prog 185 [agg (aj a),agg (aj b)] w (I (nV a b)):=by
 have H:=Sep.aI w;refine dn func185 ?_;refine Sr (bK H (h:=λz F s k=>?_));refine bK s (h:=λC G i D=>?_);refine V3 ?_;refine Vv (ah.aib (enc:=aj) _ _ rfl rfl) (Cz (λj=>?_) (λj=>?_))
 .have d:nV a b=0:=by rw[j];unfold nV;rw[zac rfl,zab (Int.lt_irrefl _),zab (Int.lt_irrefl _),N8]
  refine V1 ?_;exact⟨by first | (rw[d];rfl) | (rw[Cb f (.inl (by assumption))];rfl) | (rw[Cc g f (by assumption) (λh=>zas h (by assumption))];rfl),i.au⟩
 have g:=j;refine O5 ?_;refine Qn (Cd rfl (λm=>?_) (λm=>?_))
 .have q:nV a b=if a.null=true then -1 else 1:=by unfold nV;rw[zab (by simpa using m)]
  refine O2 ?_;refine Qn (Cd rfl (λo=>?_) (λo=>?_))
  .have d:nV a b= -1:=by rw[q,zac o]
   refine V1 ?_;exact⟨by first | (rw[d];rfl) | (rw[Cb f (.inl (by assumption))];rfl) | (rw[Cc g f (by assumption) (λh=>zas h (by assumption))];rfl),i.au⟩
  have d:nV a b=1:=by rw[q,zab (by rw[o];simp)]
  refine V1 ?_;exact⟨by first | (rw[d];rfl) | (rw[Cb f (.inl (by assumption))];rfl) | (rw[Cc g f (by assumption) (λh=>zas h (by assumption))];rfl),i.au⟩
 have f:a.null=b.null:=by simpa using m
 refine Sz (λS=>?_) (λS=>?_)
 .refine V2 ?_
  exact⟨by first | (rw[d];rfl) | (rw[Cb f (.inl (by assumption))];rfl) | (rw[Cc g f (by assumption) (λh=>zas h (by assumption))];rfl),i.au⟩
 refine Sz (λu=>?_) (λu=>?_)
 .refine O7 ?_
  refine Qn (Cd rfl (λt=>?_) (λt=>?_))
  .have d:nV a b= -1:=Cb f (.inr ⟨by assumption,by assumption⟩)
   refine V1 ?_;exact⟨by first | (rw[d];rfl) | (rw[Cb f (.inl (by assumption))];rfl) | (rw[Cc g f (by assumption) (λh=>zas h (by assumption))];rfl),i.au⟩
  have d:nV a b=1:=Cc g f (by assumption) (λ_=>by assumption);refine V1 ?_;exact⟨by first | (rw[d];rfl) | (rw[Cb f (.inl (by assumption))];rfl) | (rw[Cc g f (by assumption) (λh=>zas h (by assumption))];rfl),i.au⟩
 refine V3 ?_;exact⟨by first | (rw[d];rfl) | (rw[Cb f (.inl (by assumption))];rfl) | (rw[Cc g f (by assumption) (λh=>zas h (by assumption))];rfl),i.au⟩
def agW (t:bZ):Rk prog 168 [agg (aG t)] w (agg (aj ⟨mX t&&t.null,0,[]⟩)):=by
 have H:=Sep.aI w;refine pI func168 ?_;refine Sr (bK H (h:=λb C i s=>?_));refine Az (λq D j u=>?_);refine Kz (Um _) (λF m z=>?_);refine Mv ?_;refine eO (t:=5) rfl (λd=>?_) (λd=>?_)
 .refine V3 ?_
  refine Vb (aj ⟨t.null,0,[]⟩) ?_;refine Tz (λG f=>?_);refine V0 ?_;exact⟨_,⟨_,_,_,rfl,rfl,nL (cs:=aj ⟨t.null,0,[]⟩) (o:=0) (k:=3) (f.obj At0) (us:=aj ⟨t.null,0,[]⟩) rfl rfl,rfl⟩,by simp_all[fU,agg],f.au⟩
 refine V1 ?_;refine Vb (aj ⟨false,0,[]⟩) ?_;refine Tz (λJ g=>?_);refine V0 ?_;exact⟨_,⟨_,_,_,rfl,rfl,nL (cs:=aj ⟨false,0,[]⟩) (o:=0) (k:=3) (g.obj At0) (us:=aj ⟨false,0,[]⟩) rfl rfl,rfl⟩,by simp_all[fU,agg],g.au⟩
end
end

end
section
section gives
variable {P:Program} {ρ:Od->Value} {ty:Td} {w:Wd} {x y:Od} {T U:Td} {k:IntKind} {a b c:Int}
def ah.Z7 (d:ρ x=.int k a) (f:ρ y=.int k b) (h:k.wrap (a+b)=c):ah P ρ (.binOp .add T x y U) ty w (.int k c) w:=by subst h;exact ah.add d f
def ah.akc (d:ρ x=.int k a) (f:ρ y=.int k b) (h:k.wrap (a-b)=c):ah P ρ (.binOp .sub T x y U) ty w (.int k c) w:=by subst h;exact ah.sub d f
def ah.alL (d:ρ x=.int k a) (f:ρ y=.int k b) (h:k.wrap (a*b)=c):ah P ρ (.binOp .mul T x y U) ty w (.int k c) w:=by subst h;exact ah.mul d f
def ah.alM (f:ρ x=.int k a) (g:ρ y=.int k b) (h:b≠0) (d:k.wrap (a.tdiv b)=c):ah P ρ (.binOp .quo T x y U) ty w (.int k c) w:=by subst d;exact ah.quo f g h
def ah.aiC (d:ρ x=.int k a) (h:k.wrap (0-a)=c):ah P ρ (.unOp .neg T x) ty w (.int k c) w:=by subst h;exact ah.neg d
def ah.qA {s t:Td} {j:IntKind} [f:nO P s j] [g:nO P t k] (d:ρ x=.int j a) (h:k.wrap a=c):ah P ρ (.convert s t x) ty w (.int k c) w:=by subst h;exact ah.conv d
end gives
end
def tY:L8:=[48,49,50,51,52,53,54,55,56,57,97,98,99,100,101,102]
variable {d:Nat}
def Rc (h:d<16):(tY.take (d+1)).drop d=[nU d]:=by
 have key: ∀i:Fin 16,(tY.take (i.val+1)).drop i.val=[nU i.val]:=dC;exact key ⟨d,h⟩
def adO {l:L8} {i:Nat} (h:i<l.length):zC (l.take (i+1))=zC (l.take i)++[nU ((l.getD i 0).toNat/16),nU ((l.getD i 0).toNat%16)]:=by
 unfold zC;rw[zaq,zaa h,zbu];simp[zao,zaa h]
def KL (l:L8):(zC l).length=2*l.length:=by
 induction l with
 | nil=>rfl
 | cons c l i=>unfold zC at *;rw[zbi,zad,i];simp;omega
variable {w:Wd}
open Go.RowKit
def adr (A:OA) (o:Nat):Value:=.pointer (A.map (·.add o))
class jl {α:Type} (enc:α->LV) (k:outParam Nat):Prop where
 len: ∀x,(enc x).length=k
def Rd {α:Type} (w:Wd) (A:OA) (enc:α->LV) (k:Nat) (l:List α):Prop:=iU w A l.length k (l.flatMap enc)
section
variable {α:Type} {enc:α->LV} {k:Nat} {l:List α} {A:OA} {w w' w0:Wd}
def flat_get (d: ∀x,(enc x).length=k): ∀{l:List α} {i j:Nat} {c:α},l[i]? =some c->j<k->(l.flatMap enc)[i*k+j]? =(enc c)[j]?
 | [],_,_,_,h,_=>by simp at h
 | a::l,0,j,c,h,hj=>by
  simp only[zcx,Option.some.injEq]at h;subst h;rw[zbi,Nat.zero_mul,zde,zce (by rw[d];exact hj)]
 | a::l,i+1,j,c,h,hj=>by
  simp only[zcy]at h;rw[zbi,zbx (by rw[d,zei];omega),d,zei];rw[show i*k+k+j-k=i*k+j from oM];exact flat_get d h hj
def jh (h: ∀x,(enc x).length=k): ∀l:List α,(l.flatMap enc).length=l.length*k
 | []=>sM
 | a::l=>by rw[zbi,zad,h,jh h l,zat,zei];omega
def Rd.aK (h:Rd w A enc k l) (d:aS noB w w'):Rd w' A enc k l:=iU.aK h d
def Rd.addr (h:Rd w A enc k l) (f:0<l.length): ∃a,A=some a:=by
 obtain⟨a,d,_⟩:=h.at_ f;exact⟨a,d⟩
def fP {i:Nat} {c:α} (h:l[i]? =some c):i<l.length:=(zba.1 h).1
def Rd.cell [g:jl enc k] {i f:Nat} {c:α} {v:Value} (h:Rd w A enc k l) (d:l[i]? =some c) (j:(enc c)[f]? =some v): ∃a,A=some a/\w.cell? (a.add (i*k+f))=some v:=by
 have q:=fP d;obtain⟨a,m,o⟩:=h.at_ oM;refine⟨a,m,o _ _ ?_⟩;rw[flat_get g.len d (by rw[<-g.len c];exact fP j)];exact j
end
variable {bytes:Nat} {v:Value}
section
variable {P:Program} {ρ:Od->Value} {ty:Td} {w w0:Wd} {x y:Od} {α:Type} {enc:α->LV} {k:Nat} {l:List α} {A:OA} {rs:List HP}
def ah.fT {t e:Td} [o:dR P t e] [m:Cells P e k bytes] {c i:Nat} {j:IntKind} (f:ρ x=.slice A l.length c) (g:ρ y=.int j i) (d:Rd w0 A enc k l) (h:i<l.length):ah P ρ (.indexAddr t x y) ty w (adr A (i*k)) w:=by
 obtain⟨a,rfl⟩:=d.addr oM;exact ah.idx f g h
def ah.oO {s f g o:Nat} [h:Cq P s f g] (j:ρ x=adr A o) (i:Rd w0 A enc k l) (d:0<l.length):ah P ρ (.fieldAddr s x f) ty w (adr A (o+g)) w:=by
 obtain⟨a,rfl⟩:=i.addr d;exact ah.af0 j
def ah.dY [o:jl enc k] {i f:Nat} {c:α} {v:Value} [OneCell P T] (m:ρ x=adr A (i*k+f)) (H:Sep w0 noB rs w) (g:Rd w0 A enc k l) (d:l[i]? =some c) (j:(enc c)[f]? =some v):ah P ρ (.load T x) ty w v w:=by
 obtain⟨a,rfl,h⟩:=(g.aK H.au).cell d j;exact ah.aa3 m h
def ah.Ce [m:jl enc k] {i:Nat} {c:α} [OneCell P T] (j:ρ x=adr A (i*k)) (H:Sep w0 noB rs w) (d:Rd w0 A enc k l) (h:l[i]? =some c) (g:(enc c)[0]? =some v):ah P ρ (.load T x) ty w v w:=
 ah.dY (f:=0) j H d h g
def ah.EK [F:jl enc k] {i f n:Nat} {c:α} {us:LV} [Agg P T n] (D:ρ x=adr A (i*k+f)) (H:Sep w0 noB rs w) (m:Rd w0 A enc k l) (g:l[i]? =some c) (z:((enc c).drop f).take n=us) (t:us.length=n):ah P ρ (.load T x) ty w (.agg us.toArray) w:=by
 obtain⟨o,h⟩:=m.addr (by have:=fP g;omega);subst h;refine ah.ajP (a:=o.add (i*k+f)) D (λj u d=>?_) t
 have C:(enc c)[f+j]? =some u:=by
  rw[<-z,zcq]at d
  split at d
  .rw[zco]at d;exact d
  cases d
 obtain⟨q,h,s⟩:=(m.aK H.au).cell g C;injection h with h
 subst h;rw[add_add,Nat.add_assoc];exact s
def ah.iT [h:jl enc k] {i:Nat} {c:α} {T:Td} [Agg P T k] (j:ρ x=adr A (i*k)) (H:Sep w0 noB rs w) (g:Rd w0 A enc k l) (d:l[i]? =some c):ah P ρ (.load T x) ty w (.agg (enc c).toArray) w:=
 ah.EK (f:=0) j H g d (by rw[zdh,<-h.len c,zbo]) (h.len c)
end
section
variable {P:Program} {w w0:Wd} {S:NP} {rs:List HP} {put:HP->List HP} {σ:St} {R:Value->Wd->Prop} {us:LV} {a b k E:Nat} {T:Td}
def gT [Agg P T k] (H:Sep w0 S rs w) (d:σ a=.pointer (some ⟨b,0,none⟩):=by exact rfl) (h:At rs (blk b us E) put:=by exact aT) (hk:us.length=k:=by exact rfl):
    qV P σ w [.cell a T] [.agg us.toArray]:=
  ⟨_,_,_,rfl,d,nL (k:=k) (H.obj h) (us:=us) (by rw[zdh,<-hk,zbo]) hk,rfl⟩
def dD [Agg P T k] {t:Nat} (H:Sep w0 S rs w) (g:σ a=.pointer (some ⟨b,0,none⟩):=by exact rfl) (h:At rs (blk b us E) put:=by exact aT) (d:us.length=k:=by exact rfl) (f:σ t=v:=by exact rfl):
    qV P σ w [.cell a T,.tmp t] [.agg us.toArray,v]:=
  ⟨_,_,_,rfl,g,nL (k:=k) (H.obj h) (us:=us) (by rw[zdh,<-d,zbo]) d,_,by subst f;rfl,rfl⟩
end
instance:jl aG 2:=⟨λ_=>rfl⟩
instance:jl aj 3:=⟨λ_=>rfl⟩
instance:jl aQ 3:=⟨λ_=>rfl⟩
instance:jl aL 7:=⟨λ_=>rfl⟩
def aP {α:Type} (w:Wd) (v:Value) (enc:α->LV) (k:Nat) (l:List α):Prop:=∃A c,v=.slice A l.length c/\(l.length<=c/\c<=9223372036854775807)/\Rd w A enc k l
variable {cols:List bF} {r:List aF} {i:Nat} {vc:Value} {n:Int}
def aP.aK {α:Type} {w w':Wd} {v:Value} {enc:α->LV} {k:Nat} {l:List α} (h:aP w v enc k l) (i:aS noB w w'):aP w' v enc k l:=by
 obtain⟨A,c,d,f,g⟩:=h;exact⟨A,c,d,f,g.aK i⟩
section
attribute [local irreducible] FW FL FG FGn jX lg gD l7 Qfn ah
section
def qY (cols:List bF) (r:List aF) (i:Nat):Int:=((((cols.zip r).drop i).map λp=>fB p.1.type p.2).find? (λe=>decide (e≠0))).getD 0
def Cg (h:cols.length=r.length):d9 cols r=qY cols r 0:=by
 unfold d9 qY;rw[zab oM,zdh]
def EL (h:r.length<=i):qY cols r i=0:=by
 unfold qY;rw[zbv (by rw[List.length_zip];omega)];rfl
def yg {a:bF} {c:aF} (g:cols[i]? =some a) (j:r[i]? =some c):qY cols r i=if fB a.type c≠0 then fB a.type c else qY cols r (i+1):=by
 have d:(cols.zip r)[i]? =some (a,c):=by rw[List.getElem?_zip_eq_some];exact⟨g,j⟩
 have f:=fP d;unfold qY;rw[zbn f];have m:(cols.zip r)[i]=(a,c):=by rw[zaa f]at d;injection d
 rw[m,zbc,zcm]
 by_cases h:fB a.type c=0<;>simp[h]
def aN {α:Type} {l:List α} {i:Nat} (h:i<l.length): ∃c,l[i]? =some c:=⟨l[i],zaa h⟩
attribute [local irreducible] fB
section
variable {w:Wd}
def N9 {v:Value} (t:aP w vc aL 7 cols) (V:aP w v aj 3 r):Rk Tryz.prog 179 [vc,v] w (I (d9 cols r)):=by
 obtain⟨A,m,rfl,⟨Y,N⟩,W⟩:=t;obtain⟨C,n,rfl,⟨Z,O⟩,X⟩:=V;have H:=Sep.aI w;refine dn Tryz.func179 ?_;refine Cz (λu=>?_) (λu=>?_)
 .have d:d9 cols r=100:=zac oM
  refine V1 ?_;exact⟨by rw[d];rfl,H.au⟩
 have g:cols.length=r.length:=oM;have D:=Cg g;refine V1 ?_;refine aM (λi:Nat=>[(0,.slice A cols.length m),(1,.slice C r.length n),(5,I i)]) (λi w'=>(i<=r.length/\d9 cols r=qY cols r i)/\Sep w noB [] w') (λi _=>r.length-i) 0 tR ⟨⟨zai _,D⟩,H⟩ (λi p b L=>?_);obtain⟨⟨hi,f⟩,J⟩:=L;refine Lp ?_;refine Cz (λK=>?_) (λK=>?_)
 .have z:i<r.length:=oM
  have j:i<cols.length:=oM;obtain⟨a,M⟩:=aN j;obtain⟨c,t⟩:=aN z;have o:=yg M t;refine Dz (λS e F=>?_);refine V4 ?_;refine Gl S 4 rfl rfl (ah.EK (us:=aG _) rfl F (by assumption) (by assumption) rfl rfl) (V4 ?_);refine dS S 9 _ F (adN a.type c) (h:=λl G k=>⟨sT,?_⟩);refine Cz (λs=>?_) (λs=>?_)
  .have d:d9 cols r=fB a.type c:=by rw[f,o,zac s]
   refine V2 ?_;exact⟨by rw[d];rfl,G.au⟩
  have q:d9 cols r=qY cols r (i+1):=by rw[f,o,zab s]
  refine V3 ?_;exact ak (i+1) tR ⟨⟨oM,q⟩,G⟩ oM
 have d:d9 cols r=0:=f.trans (EL oM);refine V1 ?_;exact⟨by rw[d];rfl,J.au⟩
end
end
section
def eG (kind:Int):Nat:=if 1<=kind/\kind<=6 then 0 else if kind=10\/kind=15\/kind=16\/kind=18 then 1 else 2
def Dv {x:bH} (h:eX x=true):eG x.kind=eD x.kind:=by
 have f:1<=x.kind:=by
  unfold eX at h
  repeat' split at h
  all_goals first | omega | (have:=zbe h;omega)
 unfold eG eD
 by_cases d:x.kind<7
 .rw[zac oM,zac d]
 rw[zab oM,zab d]
section
variable {w:Wd}
def Ob (k:Int):aX prog 164 [I k] w λv w'=>v=I (eG k)/\w=w':=by
 have H:=Sep.aI w;refine dL func164 ?_;refine Cz (λh=>?_) (λh=>?_)
 .refine Sk (fC (zay Value.bool (zau h)) ?_)
  refine V1 ?_;exact⟨by unfold eG;rw[zac oM];rfl,rfl⟩
 refine Cz (λd=>?_) (λd=>?_)
 .refine Sk (fC (zay Value.bool (zau d)) ?_)
  refine V1 ?_;exact⟨by unfold eG;rw[zac oM];rfl,rfl⟩
 refine Cz (λf=>?_) (λf=>?_)
 .refine Sk (fC (zay Value.bool (zau f)) ?_)
  refine V1 ?_;exact⟨by unfold eG;rw[zac oM];rfl,rfl⟩
 refine Cz (λg=>?_) (λg=>?_)
 .refine Sk (fC (zay Value.bool (zau g)) ?_)
  refine V1 ?_;exact⟨by unfold eG;rw[zac oM];rfl,rfl⟩
 refine Cz (λi=>?_) (λi=>?_)
 .refine Sk (fC (zay Value.bool (zau i)) ?_)
  refine V1 ?_;exact⟨by unfold eG;rw[zac oM];rfl,rfl⟩
 refine Cz (λq=>?_) (λq=>?_)
 .refine V1 ?_
  exact⟨by unfold eG;rw[zac oM];rfl,rfl⟩
 refine Cz (λj=>?_) (λj=>?_)
 .refine Sk (fC (zay Value.bool (zau j)) ?_)
  refine V1 ?_;exact⟨by unfold eG;rw[zab oM,zac oM];rfl,rfl⟩
 refine Cz (λm=>?_) (λm=>?_)
 .refine Sk (fC (zay Value.bool (zau m)) ?_)
  refine V1 ?_;exact⟨by unfold eG;rw[zab oM,zac oM];rfl,rfl⟩
 refine Cz (λo=>?_) (λo=>?_)
 .refine Sk (fC (zay Value.bool (zau o)) ?_)
  refine V1 ?_;exact⟨by unfold eG;rw[zab oM,zac oM];rfl,rfl⟩
 refine Cz (λs=>?_) (λs=>?_)
 .refine V1 ?_
  exact⟨by unfold eG;rw[zab oM,zac oM];rfl,rfl⟩
 refine V1 ?_;exact⟨by unfold eG;rw[zab oM,zab oM];rfl,rfl⟩
def adP (x:bH):Rk prog 165 [agg (aQ x)] w (.bool (eX x)):=by
 have H:=Sep.aI w;refine dL func165 ?_;refine Sr (bK H (h:=λJ L d K=>?_));refine Cz (λf=>?_) (λf=>?_)
 .refine Sz (λi=>?_) (λi=>?_)
  .refine Sz (λj=>?_) (λj=>?_)
   .refine V5 ?_
    exact⟨jD bA,d.au⟩
   refine V2 ?_;exact⟨jD bA,d.au⟩
  refine V4 ?_;exact⟨jD bA,d.au⟩
 refine Cz (λk=>?_) (λk=>?_)
 .refine V4 ?_
  exact⟨jD bA,d.au⟩
 refine Cz (λS=>?_) (λS=>?_)
 .refine Sz (λm=>?_) (λm=>?_)
  .refine Sz (λo=>?_) (λo=>?_)
   .refine V5 ?_
    exact⟨jD bA,d.au⟩
   refine V2 ?_;exact⟨jD bA,d.au⟩
  refine V4 ?_;exact⟨jD bA,d.au⟩
 refine Cz (λa=>?_) (λa=>?_)
 .refine Sz (λq=>?_) (λq=>?_)
  .refine Sz (λt=>?_) (λt=>?_)
   .refine Kz (Ra x.s oM) (λM g _=>?_)
    refine V2 ?_;exact⟨jD bA,g.au⟩
   refine V2 ?_;exact⟨jD bA,d.au⟩
  refine V4 ?_;exact⟨jD bA,d.au⟩
 refine Cz (λb=>?_) (λb=>?_)
 .refine Sz (λu=>?_) (λu=>?_)
  .refine V6 ?_
   exact⟨jD bA,d.au⟩
  refine V2 ?_;exact⟨jD bA,d.au⟩
 refine Cz (λc=>?_) (λc=>?_)
 .refine Sz (λSh=>?_) (λSh=>?_)
  .refine Sz (λz=>?_) (λz=>?_)
   .refine V3 ?_
    exact⟨jD bA,d.au⟩
   refine Sz (λC=>?_) (λC=>?_)
   .refine V7 ?_
    exact⟨jD bA,d.au⟩
   refine V4 ?_;exact⟨jD bA,d.au⟩
  refine V2 ?_;exact⟨jD bA,d.au⟩
 refine Sz (λD=>?_) (λD=>?_)
 .refine Sz (λF=>?_) (λF=>?_)
  .refine Sz (λG=>?_) (λG=>?_)
   .refine V5 ?_
    exact⟨jD bA,d.au⟩
   refine V2 ?_;exact⟨jD bA,d.au⟩
  refine V4 ?_;exact⟨jD bA,d.au⟩
 refine V6 ?_;exact⟨jD bA,d.au⟩
end
def KZ (cols:List bF) (n:Int):Int:=match jM cols n with | some i=>i | none=> -1
def adQ (h: ∀(j:Nat) a,cols[j]? =some a->a.id≠n):jM cols n=none:=by
 unfold jM;rw[zdc];intro a d;obtain⟨j,f⟩:=zdf d;simpa using h j a f
def adR {a:bF} (hi:cols[i]? =some a) (g:a.id=n) (h: ∀(j:Nat) a,j<i->cols[j]? =some a->a.id≠n):jM cols n=some i:=by
 have f:=fP hi;have d:cols[i]=a:=by rw[zaa f]at hi;injection hi
 unfold jM;rw[zcr];refine⟨f,by simp[d,g],λj m=>?_⟩;have:=h j cols[j] m (zaa oM);simpa using this
def agX (h:KZ cols n<0):jM cols n=none:=by
 unfold KZ at h
 split at h
 .omega
 assumption
def adS (h: ¬KZ cols n<0): ∃i,jM cols n=some i/\KZ cols n=(i:Int):=by
 unfold KZ at h ⊢;cases e:jM cols n with
 | none=>rw[e]at h;simp at h
 | some i=>exact⟨i,rfl,rfl⟩
def Gh {i:Nat} (h:jM cols n=some i):i<cols.length:=by
 unfold jM at h;rw[zcr]at h;exact h.1
section
variable {w:Wd}
def KM (n:Int) (F:aP w vc aL 7 cols):Rk prog 245 [vc,I n] w (I (KZ cols n)):=by
  obtain⟨A,m,rfl,⟨K,G⟩,J⟩:=F;have H:=Sep.aI w;refine dn func245 ?_;refine V2 ?_;refine aM (λi:Nat=>[(0,.slice A cols.length m),(1,I n),(5,I i)]) (λi w'=>(i<=cols.length/\∀(j:Nat) a,j<i->cols[j]? =some a->a.id≠n)/\Sep w noB [] w') (λi _=>cols.length-i) 0 tR ⟨⟨zai _,λj a q=>oM⟩,H⟩ (λi M L D=>?_);obtain⟨⟨hi,f⟩,s⟩:=D;refine Lp ?_;refine Cz (λu=>?_) (λu=>?_)
  . have z:i<cols.length:=oM
    obtain⟨a,C⟩:=aN z;refine Cz (λt=>?_) (λt=>?_)
    . have d:KZ cols n=i:=by
        unfold KZ;rw[adR C t f]
      refine V2 ?_;exact⟨by rw[d];rfl,s.au⟩
    have o: ∀(j:Nat) a,j<i+1->cols[j]? =some a->a.id≠n:=by
      intro j b q g
      rcases zdp j i with h | h
      . exact f j b h g
      have :j=i:=by omega
      subst this;rw[C]at g;injection g with g;subst g;exact t
    refine V3 ?_;exact ak (i+1) tR ⟨⟨oM,o⟩,s⟩ oM
  have d:KZ cols n= -1:=by
    unfold KZ;rw[adQ λj a q=>f j a (by have:=fP q;omega) q]
  refine V1 ?_;exact⟨by rw[d];rfl,s.au⟩
def ji (b:Bool):Rk prog 324 [.bool b] w (agg (aj (iw b))):=by
 have H:=Sep.aI w;refine pI func324 ?_;refine Az (λi j g k=>?_);refine O1 ?_;refine Qn (Cd rfl (λh=>?_) (λh=>?_))
 .refine Sr (Vb (aj (iw true)) ?_)
  refine Tz (λm d=>?_);refine V0 ?_;refine⟨_,gT d,?_⟩;exact⟨by simp_all[agg];rfl,d.au⟩
 refine V0 ?_;refine Vb (aj (iw false)) ?_;refine Tz (λo f=>?_);refine V0 ?_;refine⟨_,gT f,?_⟩;exact⟨by simp_all[agg];rfl,f.au⟩
end
attribute [local irreducible] mX
section
variable {w:Wd}
def adT (x:bH) (O:aP w vc aL 7 cols):Rk prog 166 [vc,agg (aQ x)] w (.tuple #[agg (aG ((iW cols x).getD iq)),.bool (iW cols x).isSome]):=by
 have q:=O;obtain⟨A,m,rfl,⟨hm,v⟩,T⟩:=O;have H:=Sep.aI w;obtain⟨r,ay⟩: ∃r,r=iW cols x:=⟨_,rfl⟩;rw[<-ay];unfold iW at ay;refine tQ func166 ?_;refine Sr (bK H (h:=λQ w2 y k1=>?_));refine Az (λR w4 W k3=>?_);refine Cz (λk=>?_) (λk=>?_)
 .rw[zac k]at ay
  refine Kz (KM x.n (q.aK W.au)) (λwa X ka=>?_);refine Sz (λo=>?_) (λo=>?_)
  .have d:r=none:=by rw[ay,agX o]
   refine V1 ?_;refine Vb (aG iq) ?_;refine Tz (λwb z=>?_);refine V1 ?_;refine⟨_,dD z,?_⟩;exact⟨by first | (rw[d];rfl) | (rw[ay];rfl),z.au⟩
  obtain⟨i,V,l⟩:=adS o;have u:=Gh V;obtain⟨a,p⟩:=aN u;have s:cols.getD i ⟨0,[],iq,cell0⟩=a:=by rw[zao,p];rfl
  rw[V]at ay;dsimp only at ay;rw[s]at ay;rw[l];refine V4 ?_;refine Vv (ah.EK (us:=aG _) rfl X (by assumption) (by assumption) rfl rfl) (On ?_);refine Kz (Um _) (λwc Y kb=>?_);refine O2 ?_;refine Qn (Cd rfl (λS=>?_) (λS=>?_))
  .have d:r=none:=by rw[ay,zac (by simpa using S)]
   refine Sr (Vb (aG iq) ?_);refine Tz (λwd C=>?_);refine V1 ?_;refine⟨_,dD C,?_⟩;exact⟨by first | (rw[d];rfl) | (rw[ay];rfl),C.au⟩
  rw[zab (by simpa using S)]at ay;refine V4 ?_;refine Vv (ah.EK (us:=aG _) rfl Y (by assumption) (by assumption) rfl rfl) (Az (λZ we E kc=>?_));refine Tz (λwf D=>?_);refine Cz (λb=>?_) (λb=>?_)
  .rw[zac b]at ay
   obtain⟨t,f⟩: ∃t,t=bZ.mk 3 a.type.null:=⟨_,rfl⟩;rw[<-f]at ay;refine V1 ?_;refine sO D (cs':=aG t) (hs:=by rw[f];rfl) (h:=λwg P=>?_);refine Tz (λwh F=>?_);refine V1 ?_;refine⟨_,dD F,?_⟩;exact⟨by first | (rw[d];rfl) | (rw[ay];rfl),F.au⟩
  rw[zab b]at ay;obtain⟨t,f⟩: ∃t,t=a.type:=⟨_,rfl⟩;rw[<-f]at ay D;refine Tz (λwi G=>?_);refine V1 ?_;refine⟨_,dD G,?_⟩;exact⟨by first | (rw[d];rfl) | (rw[ay];rfl),G.au⟩
 rw[zab k]at ay;refine Cz (λc=>?_) (λc=>?_)
 .rw[zac c]at ay
  refine Sr (Vb (aG ⟨3,false⟩) ?_);refine Tz (λwj J=>?_);refine V1 ?_;refine⟨_,dD J,?_⟩;exact⟨by first | (rw[d];rfl) | (rw[ay];rfl),J.au⟩
 rw[zab c]at ay;refine Cz (λe=>?_) (λe=>?_)
 .rw[zac e]at ay
  refine Sr (Vb (aG ⟨1,false⟩) ?_);refine Tz (λwk K=>?_);refine V1 ?_;refine⟨_,dD K,?_⟩;exact⟨by first | (rw[d];rfl) | (rw[ay];rfl),K.au⟩
 rw[zab e]at ay;refine Cz (λg=>?_) (λg=>?_)
 .rw[zac g]at ay
  refine Sr (Vb (aG ⟨4,false⟩) ?_);refine Tz (λwl L=>?_);refine V1 ?_;refine⟨_,dD L,?_⟩;exact⟨by first | (rw[d];rfl) | (rw[ay];rfl),L.au⟩
 rw[zab g]at ay;refine Cz (λj=>?_) (λj=>?_)
 .rw[zac j]at ay
  refine Sr (Vb (aG ⟨5,false⟩) ?_);refine Tz (λwm M=>?_);refine V1 ?_;refine⟨_,dD M,?_⟩;exact⟨by first | (rw[d];rfl) | (rw[ay];rfl),M.au⟩
 rw[zab j]at ay;refine V2 ?_;refine Vb (aG ⟨x.n,true⟩) ?_;refine Tz (λwn N=>?_);refine V1 ?_;refine⟨_,dD N,?_⟩;exact⟨by first | (rw[d];rfl) | (rw[ay];rfl),N.au⟩
end
end
def l6 {r:Option bZ} {t:bZ} {ok:Bool} (h:r=if ok=true then some t else none): ∃f,Value.tuple #[agg (aG t),.bool ok]=.tuple #[agg (aG f),.bool r.isSome]/\∀x,r=some x->f=x:=by
 subst h;refine⟨t,by cases ok<;>rfl,λx d=>?_⟩;cases ok
 .cases d
 injection d
section
variable {w:Wd}
def XF (a b:Int) (m:cB a) (s:cB b):aX prog 325 [I a,I b] w λv w'=>v=.tuple #[I (if bM (a+b)=true then a+b else 0),.bool (bM (a+b))]/\w=w':=by
 have H:=Sep.aI w;obtain⟨o,q⟩:=m;obtain⟨t,u⟩:=s;refine dn func325 ?_;refine Sz (λd=>?_) (λd=>?_)
 .refine V2 ?_
  refine Vc (9223372036854775807-b) ?_;refine Sz (λS=>?_) (λS=>?_)
  .refine V3 ?_
   have h:bM (a+b)=false:=zam oM;exact⟨by rw[h];rfl,rfl⟩
  refine Sz (λi=>?_) (λi=>?_)
  .refine V2 ?_
   refine Vc (-9223372036854775808-b) ?_;refine Cz (λf=>?_) (λf=>?_)
   .have h:bM (a+b)=false:=zam oM
    refine V2 ?_;have h:bM (a+b)=false:=zam oM;exact⟨by rw[h];rfl,rfl⟩
   have h:bM (a+b)=true:=zau oM;refine V2 ?_;have h:bM (a+b)=true:=zau oM;refine Vc (a+b) ?_;refine V2 ?_;exact⟨by rw[h];rfl,rfl⟩
  refine V4 ?_;have h:bM (a+b)=true:=zau oM;refine Vc (a+b) ?_;refine V2 ?_;exact⟨by rw[h];rfl,rfl⟩
 refine Sz (λj=>?_) (λj=>?_)
 .refine V2 ?_
  refine Vc (-9223372036854775808-b) ?_;refine Cz (λg=>?_) (λg=>?_)
  .have h:bM (a+b)=false:=zam oM
   refine V2 ?_;have h:bM (a+b)=false:=zam oM;exact⟨by rw[h];rfl,rfl⟩
  have h:bM (a+b)=true:=zau oM;refine V2 ?_;have h:bM (a+b)=true:=zau oM;refine Vc (a+b) ?_;refine V2 ?_;exact⟨by rw[h];rfl,rfl⟩
 refine V4 ?_;have h:bM (a+b)=true:=zau oM;refine Vc (a+b) ?_;refine V2 ?_;exact⟨by rw[h];rfl,rfl⟩
theorem adU (k:Int) (a b:bZ):aX prog 167 [I k,agg (aG a),agg (aG b)] w λv w'=>(∃t,v=.tuple #[agg (aG t),.bool (vX k a b).isSome]/\∀x,vX k a b=some x->t=x)/\aS noB w w':=by
 have H:=Sep.aI w;obtain⟨r,ay⟩: ∃r,r=vX k a b:=⟨_,rfl⟩;rw[<-ay];unfold vX at ay;refine AB func167 ?_;refine Sr (bK H (h:=λj w2 H2 k1=>?_));refine bK H2 (h:=λm w4 H4 k3=>?_);refine Az (λo w6 C k5=>?_);refine Am ?_;refine Qn (dU (λz:Bool=>[(0,I k),(4,.pointer (some ⟨j,0,none⟩)),(5,.pointer (some ⟨m,0,none⟩)),(6,.pointer (some ⟨o,0,none⟩)),(7,.bool false),(8,.bool z)]) (λz w'=>z=(a.null||b.null)/\Sep w noB [blk o (aG iq) 46,blk m (aG b) 46,blk j (aG a) 46] w') ?_ ?_)
 .refine V3 ?_
  refine eO (t:=13) rfl (λSa=>?_) (λSa=>?_)
  .refine V2 ?_
   exact aA _ tR ⟨by simp[*],C⟩
  refine V4 ?_;exact aA _ tR ⟨by simp[*],C⟩
 rintro n τ wa ⟨d,D⟩;refine Lp ?_;refine dU (λz:Bool=>[(0,I k),(4,.pointer (some ⟨j,0,none⟩)),(5,.pointer (some ⟨m,0,none⟩)),(6,.pointer (some ⟨o,0,none⟩)),(7,.bool false),(8,.bool n),(9,.bool z)]) (λz w'=>z=decide (a.kind=3/\b.kind=3)/\Sep w noB [blk o (aG iq) 46,blk m (aG b) 46,blk j (aG a) 46] w') ?_ ?_
 .refine Sz (λSb=>?_) (λSb=>?_)
  .refine V5 ?_
   exact aA _ tR ⟨by simp[*],D⟩
  refine V2 ?_;exact aA _ tR ⟨by simp[*],D⟩
 rintro q τ wb ⟨f,F⟩;refine Lp ?_;refine dU (λz:Bool=>[(0,I k),(4,.pointer (some ⟨j,0,none⟩)),(5,.pointer (some ⟨m,0,none⟩)),(6,.pointer (some ⟨o,0,none⟩)),(7,.bool false),(8,.bool n),(9,.bool q),(10,.bool z)]) (λz w'=>z=decide (a.kind=1/\b.kind=1)/\Sep w noB [blk o (aG iq) 46,blk m (aG b) 46,blk j (aG a) 46] w') ?_ ?_
 .refine Sz (λSc=>?_) (λSc=>?_)
  .refine V5 ?_
   exact aA _ tR ⟨by simp[*],F⟩
  refine V2 ?_;exact aA _ tR ⟨by simp[*],F⟩
 rintro u τ wc ⟨g,Hc⟩;refine Lp ?_;refine Cz (λy=>?_) (λy=>?_)
 .refine Sk (fC (zay Value.bool (zau y)) ?_)
  refine V1 ?_;refine Vb (aG ⟨3,n⟩) ?_;refine Mv ?_;refine Tz (λwd G=>?_);refine V1 ?_;exact⟨_,dD G,l6 (t:=⟨3,n⟩) (ok:=q) kY,G.au⟩
 refine Cz (λA=>?_) (λA=>?_)
 .refine Sk (fC (zay Value.bool (zau A)) ?_)
  refine V1 ?_;refine Vb (aG ⟨3,n⟩) ?_;refine Mv ?_;refine Tz (λwe J=>?_);refine V1 ?_;exact⟨_,dD J,l6 (t:=⟨3,n⟩) (ok:=q) kY,J.au⟩
 refine Cz (λE=>?_) (λE=>?_)
 .refine Sk (fC (zay Value.bool (zau E)) ?_)
  refine V1 ?_;refine Vb (aG ⟨3,n⟩) ?_;refine Mv ?_;refine Tz (λwf K=>?_);refine V1 ?_;exact⟨_,dD K,l6 (t:=⟨3,n⟩) (ok:=q) kY,K.au⟩
 refine Cz (λIh=>?_) (λIh=>?_)
 .refine V1 ?_
  refine Vb (aG ⟨3,n⟩) ?_;refine Mv ?_;refine Tz (λwg L=>?_);refine V1 ?_;exact⟨_,dD L,l6 (t:=⟨3,n⟩) (ok:=q) kY,L.au⟩
 refine Cz (λP=>?_) (λP=>?_)
 .refine Sk (fC (zay Value.bool (zau P)) ?_)
  refine Dz (λT wh Hh=>?_);refine V1 ?_;refine Gb T 1 (aG ⟨1,n⟩) ?_;refine V5 ?_;refine cu T 7 [(6,true),(5,false),(4,true),(3,false),(2,true)] Hh (h:=λwi M=>⟨sL,?_⟩);refine V1 ?_;exact⟨_,dD M,l6 (t:=⟨1,n⟩) (ok:=decide (a.kind=b.kind)) (by rw[ay,zab oM,zac oM,d];simp only[decide_eq_true_eq]),M.au⟩
 refine Cz (λIj=>?_) (λIj=>?_)
 .refine Dz (λSe wj Hj=>?_)
  refine V1 ?_;refine Gb Se 1 (aG ⟨1,n⟩) ?_;refine V5 ?_;refine cu Se 7 [(6,true),(5,false),(4,true),(3,false),(2,true)] Hj (h:=λwk N=>⟨sL,?_⟩);refine V1 ?_;exact⟨_,dD N,l6 (t:=⟨1,n⟩) (ok:=decide (a.kind=b.kind)) (by rw[ay,zab oM,zac oM,d];simp only[decide_eq_true_eq]),N.au⟩
 refine Cz (λQ=>?_) (λQ=>?_)
 .refine Sk (fC (zay Value.bool (zau Q)) ?_)
  refine V1 ?_;refine Vb (aG ⟨1,n⟩) ?_;refine Mv ?_;refine Tz (λwl O=>?_);refine V1 ?_;exact⟨_,dD O,l6 (t:=⟨1,n⟩) (ok:=u) kZ,O.au⟩
 refine Cz (λR=>?_) (λR=>?_)
 .refine Sk (fC (zay Value.bool (zau R)) ?_)
  refine V1 ?_;refine Vb (aG ⟨1,n⟩) ?_;refine Mv ?_;refine Tz (λwm V=>?_);refine V1 ?_;exact⟨_,dD V,l6 (t:=⟨1,n⟩) (ok:=u) kZ,V.au⟩
 refine Cz (λIm=>?_) (λIm=>?_)
 .refine V1 ?_
  refine Vb (aG ⟨1,n⟩) ?_;refine Mv ?_;refine Tz (λwn W=>?_);refine V1 ?_;exact⟨_,dD W,l6 (t:=⟨1,n⟩) (ok:=u) kZ,W.au⟩
 refine Cz (λIn=>?_) (λIn=>?_)
 .refine Sr (Vb (aG ⟨1,false⟩) ?_)
  refine Tz (λwo X=>?_);refine V1 ?_;exact⟨_,dD X,l6 (t:=⟨1,false⟩) (ok:=true) (by rw[ay,zab oM,zab oM,zab oM,zac oM];rfl),X.au⟩
 refine Cz (λIo=>?_) (λIo=>?_)
 .refine Dz (λS wp Y=>?_)
  refine V5 ?_;refine qQ (t:=68) rfl (λs=>?_) (λs=>?_)
  .have i:(a.null&&b.null)=b.null:=by rw[s];rfl
   refine V3 ?_;refine Gb S 8 (aG ⟨a.kind,b.null⟩) ?_;refine V5 ?_;refine cu S 14 [(13,true),(12,false),(11,true),(10,false),(9,true)] Y (h:=λwq Z=>⟨sL,?_⟩);refine V1 ?_;exact⟨_,dD Z,l6 (t:=⟨a.kind,b.null⟩) (ok:=decide (a.kind=b.kind)) Iu,Z.au⟩
  have i:(a.null&&b.null)=false:=by rw[s];rfl
  refine V1 ?_;refine Gb S 8 (aG ⟨a.kind,false⟩) ?_;refine V5 ?_;refine cu S 14 [(13,true),(12,false),(11,true),(10,false),(9,true)] Y (h:=λwr c=>⟨sL,?_⟩);refine V1 ?_;exact⟨_,dD c,l6 (t:=⟨a.kind,false⟩) (ok:=decide (a.kind=b.kind)) Iu,c.au⟩
 refine Dz (λSh ws e=>?_);refine V1 ?_;refine Gb Sh 1 (aG ⟨3,n⟩) ?_;refine V4 ?_;refine gu (t:=83) rfl (λSi=>?_) (λSi=>?_)
 .refine V1 ?_
  refine cu Sh 10 _ e (h:=λwt l=>⟨sT,?_⟩);refine V1 ?_;exact⟨_,dD l,l6 (t:=⟨3,n⟩) (ok:=true) (by rw[ay,zab oM,zab oM,zab oM,zab oM,zab oM,d,zac (.inl (by assumption))];rfl),l.au⟩
 refine V4 ?_;refine cu Sh 10 [(9,true),(8,true),(7,false),(6,true)] e (h:=λwu p=>⟨sL,?_⟩);refine V1 ?_;exact⟨_,dD p,l6 (t:=⟨3,n⟩) (ok:=decide (a.kind=5)) (by rw[ay,zab oM,zab oM,zab oM,zab oM,zab oM,d];simp[*]),p.au⟩
end
end
variable {z:Value}
def aY {α:Type} (e k:Nat) (enc:α->LV) (v:Value) (l:List α):HP:=vE e k v l.length (l.flatMap enc)
section
variable {α:Type} {enc:α->LV} {k e:Nat} {l news:List α} {A:OA} {w w' w0:Wd} {S:NP} {rs:List HP} {put:HP->List HP} {v:Value}
def Sep.iX (H:Sep w0 S rs w) (e k:Nat) (enc:α->LV):Sep w0 S (aY e k enc (.slice none 0 0) []::rs) w:=H.gQ e k
def Sep.bX (H:Sep w0 S rs w) (hat:At rs (aY e k enc v l) put): ∃A c,v=.slice A l.length c/\l.length<=c/\Rd w A enc k l:=by
 obtain⟨A,c,d,h,_,_⟩:=Sep.xM H hat;subst d;exact⟨A,c,rfl,h,Sep.rowAt H hat⟩
def JU (h: ∀x,(enc x).length=k): ∀(l:List α) (m:Nat),(l.take m).flatMap enc=(l.flatMap enc).take (m*k)
 | _,0=>sM
 | [],m+1=>sM
 | a::l,m+1=>by
  rw[zdd,zbi,zbi,JU h l m,List.take_append,h,zei,zgi,zaj (l:=enc a) (by rw[h];omega)]
def Sep.alN [M:jl enc k] {c m:Nat} (H:Sep w0 S rs w) (i:At rs (aY e k enc (.slice A l.length c) l) put) (u:m<=l.length):Sep w0 S (put (aY e k enc (.slice A m c) (l.take m))) w:=by
 refine H.imp i λF G=>?_;obtain⟨⟨z,C⟩,D⟩:=G;have o:(l.take m).length=m:=by rw[zah];omega
 refine⟨?_,λb=>by rw[D b];cases A<;>simp[Value.ownBlock]⟩;show w.ownsRow 0 e k _ (l.take m).length ((l.take m).flatMap enc)
 rw[o,JU M.len];refine⟨by rw[zah,z];exact zcf (zfe k u),?_⟩
 rcases C with⟨t,O⟩ | ⟨g,cap,d,t,K,L,N,h,q,s⟩
 .injection t with f J j
  subst f;subst j
  left
  have :m=0:=by omega
  subst this;exact⟨rfl,rfl⟩
 injection t with f J j
 subst f;subst j;refine .inr ⟨g,c,d,rfl,K,L,oM,h,q,?_⟩;rw[<-s,List.take_take,zcf (zfe k u)]
def Ea {P:Program} {ρ:Od->Value} {ty:Td} {x y:Od} {t b c bytes:Nat} [V:dR P t e] [O:Cells P e k bytes] [W:Zero P e z] [J:jl enc k]
    (H:Sep w0 S (blk b (news.flatMap enc) e::rs) w) (M:ρ x=v) (N:ρ y=.slice (some ⟨b,0,none⟩) c c) (o:c=news.length) (f:At rs (aY e k enc v l) put) (g: ∀u∈news.flatMap enc,u.oneCell'=true)
    (q:0<k) (s:z.cells.size=k) (m:l.length+news.length<=maxLen) (h:(l.length+news.length)*bytes<=140737488355328):
    ∃j w',ah P ρ (.call {callee:=.builtin .append,args:= #[x,y],argTypes:= #[t,t]}) ty w j w'/\Sep w0 S (put (aY e k enc j (l++news))) w':=by
  subst o;have L:iU w (some ⟨b,0,none⟩) news.length k (news.flatMap enc):=Sep.mg H At0 (jh J.len news);have C:=H.bN;obtain⟨F,K,_,_⟩:=C.bG f;obtain⟨j,w',i,d,G,D⟩:=vF (P:=P) (ty:=ty) t e (z:=z) q s v l.length (l.flatMap enc) K.1 (some ⟨b,0,none⟩) news.length news.length (news.flatMap enc) L g m h;refine⟨j,w',λ_ _ _ _=>?_,?_⟩
  . simp only[execOp,resolve,invoke,builtin,zbj,zbl,zar,zch,zbc,zcn,M,N,i]
  refine C.CY f G ?_ (by rcases D with e | e<;>simp[e]);rw[<-zbu]at d;rw[zad];exact d
end
section
variable {P:Program} {r:Option Nat} {n:Nat} {ops:AO} {Q:Post} {rest:LO} {σ:St} {w w' w0:Wd} {S:NP} {rs:List HP} {put:HP->List HP} {ty:Td} {pos:String} {after:Array Edge} {guard:Option (Nat×Bool)} {lv:List Bool} {pd:LNB} {α:Type} {enc:α->LV} {k e:Nat} {l news:List α} {v:Value}
def eH {x y:Od} {t b c:Nat} [M:dR P t e] [K:Cells P e k bytes] [N:Zero P e z] [L:jl enc k]
    (H:Sep w0 S (blk b (news.flatMap enc) e::rs) w) (m:At rs (aY e k enc v l) put) (j:l.length+news.length<=maxLen) (f:(l.length+news.length)*bytes<=140737488355328) (g: ∀u∈news.flatMap enc,u.oneCell'=true)
    (G:evF σ x=v:=by exact rfl) (J:evF σ y=.slice (some ⟨b,0,none⟩) c c:=by exact rfl) (o:c=news.length:=by exact rfl) (q:0<k:=by decide) (C:z.cells.size=k:=by exact rfl) (D:Nat.blt d n=true:=by exact rfl)
    (h: ∀i w',Sep w0 S (put (aY e k enc i (l++news))) w'->FL P r n ops Q rest (upd σ d i) w'):
    FL P r n ops Q (⟨some d,.call {callee:=.builtin .append,args:= #[x,y],argTypes:= #[t,t]},ty,pos,after,none⟩::rest) σ w:=by
  obtain⟨i,w',F,s⟩:=Ea (P:=P) (t:=t) (ty:=ty) H G J o m g q C j f;exact eu F D (h i w' s)
def gZ (D:eY n ops=true) (i:Nat) (g:LNB) {x y:Od} {t b c:Nat} [W:dR P t e] [O:Cells P e k bytes] [X:Zero P e z] [V:jl enc k]
    (H:Sep w0 S (blk b (news.flatMap enc) e::rs) w) (o:At rs (aY e k enc v l) put) (m:l.length+news.length<=maxLen) (f:(l.length+news.length)*bytes<=140737488355328) (j: ∀u∈news.flatMap enc,u.oneCell'=true)
    (K:ops[i]? =some ⟨some d,.call {callee:=.builtin .append,args:= #[x,y],argTypes:= #[t,t]},ty,pos,after,guard⟩:=by exact rfl)
    (L:Region.wanted ⟨some d,.call {callee:=.builtin .append,args:= #[x,y],argTypes:= #[t,t]},ty,pos,after,guard⟩ (dG ops σ)=true:=by kernel_rfl)
    (M:evF σ x=v:=by exact rfl) (N:evF σ y=.slice (some ⟨b,0,none⟩) c c:=by exact rfl) (q:c=news.length:=by exact rfl) (C:0<k:=by decide) (G:z.cells.size=k:=by exact rfl)
    (s:gy ops lv (pd.map (·.1)) i=true:=by kernel_rfl) (F:pd.filter (λp=> !((above ops i).contains p.1))=g:=by exact pD)
    (h: ∀J w',Sep w0 S (put (aY e k enc J (l++news))) w'->jK P ops (upd σ d J) w' g/\FG P r n ops Q (lv.set i true) g (upd σ d J) w'):FG P r n ops Q lv pd σ w:=
  vJ D i g K L (Ea (P:=P) (t:=t) (ty:=ty) H M N q o j C G m f) s F h
def rX (m:eY n ops=true) (i:Nat) (f:LNB) [D:Zero P T z] {cs:LV} (H:Sep w0 S rs w) (q:ops[i]? =some ⟨some d,.alloc T,ty,pos,after,guard⟩:=by exact rfl)
    (u:Region.wanted ⟨some d,.alloc T,ty,pos,after,guard⟩ (dG ops σ)=true:=by kernel_rfl) (j:z.cells=cs.toArray:=by exact rfl)
    (g:gy ops lv (pd.map (·.1)) i=true:=by kernel_rfl) (o:pd.filter (λp=> !((above ops i).contains p.1))=f:=by exact pD)
    (h: ∀b w',Sep w0 S (blk b cs T::rs) w'->jK P ops (upd σ d (.pointer (some ⟨b,0,none⟩))) w' f/\FG P r n ops Q (lv.set i true) f (upd σ d (.pointer (some ⟨b,0,none⟩))) w'):FG P r n ops Q lv pd σ w:=
  vJ (C:=λv w'=>∃b,v=.pointer (some ⟨b,0,none⟩)/\Sep w0 S (blk b cs T::rs) w') m i f q u
    ⟨.pointer (some ⟨w.heap.size,0,none⟩),w.alloc (.cells cs.toArray T),λ_ _ _ _=>by simp[execOp,Instr.alloc,D.run,newVar,newRow,j],_,rfl,H.alloc _⟩ g o
    (λv w' t=>by obtain⟨b,rfl,s⟩:=t;exact h b w' s)
end
section
variable {P:Program} {ρ:Od->Value} {ty:Td} {w:Wd} {x y:Od} {α:Type} {enc:α->LV} {k:Nat} {l:List α} {A:OA}
def ah.yh [o:jl enc k] {i f:Nat} {c:α} [OneCell P T] (m:ρ x=adr A (i*k+f)) (g:Rd w A enc k l) (d:l[i]? =some c) (j:(enc c)[f]? =some v):ah P ρ (.load T x) ty w v w:=by
 obtain⟨a,rfl,h⟩:=g.cell d j;exact ah.aa3 m h
def ah.iK [g:jl enc k] {i:Nat} {c:α} [Agg P T k] (f:ρ x=adr A (i*k)) (d:Rd w A enc k l) (h:l[i]? =some c):ah P ρ (.load T x) ty w (.agg (enc c).toArray) w:=
 ah.iT (rs:=[]) f (Sep.aI w) d h
end
def dW {α:Type} {enc:α->LV} (h: ∀x,(enc x).all Value.oneCell'=true) (l:List α): ∀u∈l.flatMap enc,u.oneCell'=true:=λu d=>by
 obtain⟨x,_,f⟩:=zcc.1 d;exact zaz.1 (h x) u f
end Go.Proofs.Mw
