/-
 The program's bytes of hex digits,walked.
-/
import Derived.Test.YtbfjonalkaophaaGreatDoorNk13
import Derived.Lib.ItoaLen
import Derived.Test.YtbfjonalkaophaaGreatDoorRows
import Derived.PinnedBridge
import Derived.Stop.LaidErr
import Derived.Deep.DeepHandedRow
import Derived.Lay
import Derived.MakeChecks
set_option linter.all false
set_option maxRecDepth 100000
namespace Go.Proofs.Mw
open Go.Proofs.YtbfjonalkaophaaGreatDoor
section
section gives
variable {P:Program} {ρ:Od->Value} {ty:Td} {w:Wd} {x y:Od} {T U:Td} {k:IntKind} {a b c:Int}
def ah.aeA {f:IntKind} (d:ρ x=.int k a) (e:ρ y=.int f b) (h:0<=b) (S:k.wrap (a*2^(Min.min b.toNat k.bits))=c):ah P ρ (.binOp .shl T x y U) ty w (.int k c) w:=by subst S;exact ah.shl d e h
def ah.akX {t:Array Td} (S:ρ x=.int k a) (d:ρ y=.int k b) (h:Max.max a b=c):ah P ρ (.call {callee:=.builtin .max,args:= #[x,y],argTypes:=t}) ty w (.int k c) w:=by subst h;exact ah.max S d
end gives
end
variable {a at_ b:Nat} {F:NP} {e:Int}
open Go.Lib
section
attribute [local irreducible] FW FL FG FGn jX lg gD l7 Qfn ah
def Pp (c:UInt8):max 0 (Lib.indexByte tY c)=(((xB c).getD 0:Nat):Int):=by
 have key: ∀i:Fin 256,max 0 (Lib.indexByte tY i.val.toUInt8)=(((xB i.val.toUInt8).getD 0:Nat):Int):=by decide+kernel
 have:=key ⟨c.toNat,c.toNat_lt⟩;have e:(c.toNat).toUInt8=c:=sM;simpa only[e]using this
def Pq (c:UInt8):(xB c).getD 0<16:=by
 unfold xB
 split
 .rw[zdg];omega
 split
 .rw[zdg];omega
 decide
def ajm (h:a<16) (S:b<16):bits .or .i64 ((16*a:Nat):Int) (b:Int)=((a*16+b:Nat):Int):=by
 have key: ∀i j:Fin 16,bits .or .i64 ((16*i.val:Nat):Int) (j.val:Int)=((i.val*16+j.val:Nat):Int):=by decide+kernel
 exact key ⟨a,h⟩ ⟨b,S⟩
def Ye (a b:UInt8) (t:L8):tX (a::b::t)=((xB a).getD 0*16+(xB b).getD 0).toUInt8::tX t:=rfl
def RO {l:L8} (h:l.length<=1):tX l=[]:=by
 match l,h with
 | [],_=>rfl
 | [_],_=>rfl
section
variable {w:Wd}
def zR (l:L8) (c:UInt8):aX Tryz.prog 43 [str l,B c] w λv h=>v=I (Lib.indexByte l c)/\w=h:=
 lN (by
  have:=Tryz.strings_IndexByte ⟨l.toArray⟩ (c.toNat:Int) w;have e:((c.toNat:Int).toNat).toUInt8=c:=sM;rw[e]at this;exact this)
def RP (l p:L8):aX Tryz.prog 349 [str l,str p] w λv h=>v=.tuple #[str (Lib.trimPrefix l p),.bool (Lib.hasPrefix l p)]/\w=h:=
 lN (Tryz.strings_CutPrefix ⟨l.toArray⟩ ⟨p.toArray⟩ w)
def abK (l:L8) (N:l.length<=1000000) (n:l.head?=some 120):Rk Tryz.prog 305 [str l] w (agg (aj ⟨false,0,tX (l.drop 1)⟩)):=by
 have H:=Sep.aI w
 have e:Lib.trimPrefix l [120]=l.drop 1:=by
  cases l with
  | nil=>cases n
  | cons c t=>
   injection n with n
   subst n;rfl
 refine pI Tryz.func305 ?_;refine Az (λr R u O=>?_);refine V1 ?_;refine fF (RP l [120]) (h:=?_);rw[e];refine V5 ?_;have m:=u.XC 5;refine aM (λx:L8×L8×Value=>[(0,str x.1),(2,.pointer (some ⟨r,0,none⟩)),(3,x.2.2)]) (λx L=>(x.1.length<=l.length/\x.2.1.length+x.1.length<=l.length/\x.2.1++tX x.1=tX (l.drop 1))/\Sep w noB [mY 5 x.2.2 x.2.1,blk r (aj cell0) 48] L) (λx _=>x.1.length) (l.drop 1,[],.slice none 0 0) tR ⟨⟨by dsimp only;rw[zbm];omega,sM,rfl⟩,m⟩ (λx P V E=>?_);obtain⟨s,f,Q⟩:=x;obtain⟨⟨g,j,S⟩,m⟩:=E;dsimp only at g j S m;refine Lp ?_;refine Cz (λk=>?_) (λk=>?_)
 .have o:1<s.length:=oM
  obtain⟨a,b,t,rfl⟩: ∃a b t,s=a::b::t:=by
   match s,o with
   | a::b::t,_=>exact⟨a,b,t,rfl⟩
  rw[Ye]at S;have F:=Pq a;have G:=Pq b;have J:Value.int .u8 (((xB a).getD 0*16+(xB b).getD 0:Nat):Int)=B ((xB a).getD 0*16+(xB b).getD 0).toUInt8:=(ajk oM).symm;simp only[zat]at g j;refine Dz (λd W v=>?_);refine V2 ?_;refine Gp d 2 rfl rfl (λ_=>(ah.zw (i:=0) rfl rfl oM)) (Gm d 6 ?_);refine Gp d 7 rfl rfl (λ_=>(ah.zw (i:=1) rfl rfl oM)) (Lh d 3 _ v (zR tY a) (h:=λX z=>⟨sT,?_⟩));refine GS (Gn rfl (λ_=>(ah.akX rfl rfl (Pp a))) ?_);refine GS (Gn rfl (λ_=>(ah.aeA (c:=((16*(xB a).getD 0:Nat):Int)) rfl rfl oM (by show IntKind.i64.wrap (((xB a).getD 0:Nat)*16)=_;rw[IntKind.wrap_i64];omega))) ?_);refine Lh d 8 _ z (zR tY b) (h:=λY A=>⟨sT,?_⟩);refine GS (Gn rfl (λ_=>(ah.akX rfl rfl (Pp b))) ?_);refine GS (Gn rfl (λ_=>(ah.orE rfl rfl (ajm F G))) ?_);refine GS (Gn rfl (λ_=>(ah.agP rfl oM)) ?_);refine Gz d 12 _ A ([((xB a).getD 0*16+(xB b).getD 0).toUInt8].map B) (h:=λM Z C=>⟨sT,?_⟩);refine adH d 13 _ C (news:=[((xB a).getD 0*16+(xB b).getD 0).toUInt8]) At0 kN (h:=λK wf D=>⟨sT,?_⟩);refine rA d 14 _ (h:=⟨sT,?_⟩);refine V1 ?_;refine Vv (ah.qd (l:=a::b::t) (i:=2) rfl rfl sM) ?_;refine V1 ?_;exact ak (t,f++[((xB a).getD 0*16+(xB b).getD 0).toUInt8],K) tR ⟨⟨dO,by dsimp only;rw[zad];simp;omega,by dsimp only;rw[zbp];exact S⟩,D⟩ kN
 have p:s.length<=1:=oM;rw[RO p,zbt]at S;refine V1 ?_;refine Vv (ah.aj7 m At0 rfl) (Vb (aj ⟨false,0,f⟩) ?_);refine Tz (λy q=>?_);refine V0 ?_;exact⟨_,gT q,by rw[S];rfl,q.au⟩
end
open Go.Proofs.Tryz
section
def iN:bZ:=⟨5,false⟩
def uy (c:aF):L8×Int:=if fB iN c=0 then(120::zC c.s,0)else([],fB iN c)
def aeB {c:aF} (h:fB iN c=0):c.null=false/\c.s.length<=1024:=by
 unfold fB at h;have e:mX iN=true:=rfl;rw[e,zab dC]at h;cases hn:c.null with
 | true=>rw[hn,zac rfl]at h;split at h<;>rename_i S;exact zas S.1 dC;cases h
 | false=>
  rw[hn,zab dC]at h
  split at h
  .rename_i S
   have :isC iN.kind c=decide (c.n=0/\c.s.length<=1024):=rfl;rw[this,decide_eq_true_eq]at S;exact⟨rfl,S.2⟩
  cases h
section
variable {w:Wd}
def LW (c:aF) (A:cB c.n) (r:nQ w):Rk prog 153 [agg (aG iN),agg (aj c)] w (.tuple #[str (uy c).1,I (uy c).2]):=by
 have H:=Sep.aI w;refine dn func153 ?_;refine Sr (bK H (cs:=aG iN) rfl (h:=λb K t k=>?_));refine bK t (h:=λF L u G=>?_);refine Kz (uo iN c A (r.aK u.au)) (λM v J=>?_);refine Cz (λg=>?_) (λg=>?_)
 .have ay:uy c=([],fB iN c):=zab g
  refine V3 ?_;exact⟨by rw[ay];rfl,v.au⟩
 have S:fB iN c=0:=by simpa using g
 have ay:uy c=(120::zC c.s,0):=zac S;obtain⟨m,C⟩:=aeB S;refine O2 ?_;refine Qn (Cd rfl (λq=>?_) (λq=>?_))
 .exact zas q (by rw[m];decide)
 refine Dz (λi N e=>?_);refine V1 ?_;refine gY i 3 e (h:=?_);refine p8 i 1 [(3,false)] rfl kR (ael iN dC dC (r.aK e.au)) rfl kR kR (λE O o=>?_);obtain⟨⟨D,rfl,_⟩,j⟩:=o;have p:=e.aK j;rw[show Bl iN.kind=kF5 from rfl];refine⟨(bE rfl kR (ah.JZ rfl (p.obj At0) (us:=aj c) rfl rfl) rfl (dw)),?_⟩;refine V1 ?_;refine lH i 4 _ (y:=.tmp 17) (f:=304) (fs:=[]) (cs:=[]) (vals:=[agg (aj c)]) rfl (aho c oM) (h:=λE Q o=>?_);obtain⟨rfl,d⟩:=o;have z:=p.aK d;refine⟨sT,?_⟩;refine V2 ?_;exact⟨by rw[ay];rfl,z.au⟩
def Yf (l:L8) (N:l.length<=1000000) (p:l.head?=some 120) (E:nQ w):aX prog 216 [agg (aG iN),str l] w λv R=>(∃e,v=.tuple #[agg (aj ⟨false,0,Gd l⟩),I e])/\aS noB w R:=by
  have H:=Sep.aI w;obtain⟨s,F⟩: ∃s,s=tX (l.drop 1):=⟨_,rfl⟩;have i:Gd l=if 120::zC s=l/\s.length<=1024 then s else []:=by rw[F];rfl
  have S:fB iN ⟨false,0,s⟩=if s.length<=1024 then 0 else 90:=by
    have e:isC iN.kind ⟨false,0,s⟩=decide ((0:Int)=0/\s.length<=1024):=rfl;have L:mX iN=true:=rfl;unfold fB;rw[L,zab dC,zab sM,e]
    by_cases h:s.length<=1024<;>simp[h]
  refine tQ func216 ?_;refine Sr (bK H (cs:=aG iN) rfl (h:=λk w2 V c=>?_));refine Az (λa w4 W x=>?_);refine Kz (zN iN) (λw8 t y=>?_);refine Cz (λC=>?_) (λC=>?_)
  . exact zas C dC
  refine V1 ?_;refine aO (ael iN dC dC (E.aK t.au)) rfl rfl (λQ wa r=>?_);obtain⟨⟨O,rfl,_⟩,d⟩:=r;have J:=t.aK d;rw[show Bl iN.kind=kF5 from rfl];refine V2 ?_;refine fQ (f:=305) (fs:=[]) (cs:=[]) (vals:=[str l]) rfl (abK l N p) rfl rfl (λQ wb r=>?_);obtain⟨rfl,d⟩:=r;have X:=J.aK d;rw[<-F];refine Az (λb wc Y P=>?_);refine Tz (λwd K=>?_);refine Cz (λD=>?_) (λD=>?_)
  . have q:l=[110,117,108,108]:=D
    rw[q]at p;cases p
  refine Kz (LW ⟨false,0,s⟩ ⟨(by show(-9223372036854775808:Int)<=0;decide),(by show(0:Int)<=9223372036854775807;decide)⟩ (E.aK K.au)) (λwe Z T=>?_);refine Sz (λo=>?_) (λo=>?_)
  . have g:Gd l=[]:=by
      rw[i,zab];rintro⟨_,M⟩;refine o ?_;unfold uy;rw[S,zac M,zac rfl]
    refine V1 ?_;refine Vb (aj cell0) ?_;refine Tz (λwf u=>?_);refine V1 ?_;exact⟨_,dD u,⟨4,by rw[g];rfl⟩,u.au⟩
  have G:s.length<=1024:=by
    refine Classical.byContradiction λh=>o ?_;unfold uy;rw[S,zab h,zab dC]
    decide
  have j:(uy ⟨false,0,s⟩).1=120::zC s:=by
    unfold uy;rw[S,zac G,zac rfl]
  refine Cz (λn=>?_) (λn=>?_)
  . have g:Gd l=[]:=by rw[i,zab (λh=>n (by rw[j];exact h.1))]
    refine Sr (Vb (aj cell0) ?_);refine Tz (λwg z=>?_);refine V1 ?_;exact⟨_,dD z,⟨4,by rw[g];rfl⟩,z.au⟩
  have m:Gd l=s:=by rw[i,zac ⟨by rw[<-j];exact zcd.1 n,G⟩]
  refine Tz (λwh A=>?_);refine V1 ?_;exact⟨_,dD A,⟨0,by rw[m];rfl⟩,A.au⟩
end
def Yg (b:UInt8):Lib.index [] [b]= -1:=rfl
def LX (b:UInt8) (t:L8):Lib.index (b::t) [b]=0:=by
 unfold Lib.index;rw[zac (by simp[List.isPrefixOf])]
def J7 {b c:UInt8} (h:c≠b) (t:L8):Lib.index (c::t) [b]=if Lib.index t [b]= -1 then -1 else Lib.index t [b]+1:=by
 rw[Lib.index,zab (by simp[List.isPrefixOf];exact λe=>h e.symm)]
 by_cases S:Lib.index t [b]= -1<;>simp[S]
def zS (b:UInt8) (new:L8): ∀(s:L8) (k:Nat),s.count b<=k->Lib.replaceK [b] new k s=s.flatMap λc=>if c=b then new else [c]
 | [],0,_=>rfl
 | [],k+1,_=>by rw[Lib.replaceK,Yg,zac dC];rfl
 | c::t,k,hk=>by
  by_cases h:c=b
  .subst h
   rw[List.count_cons_self]at hk;obtain⟨k,rfl⟩: ∃j,k=j+1:=⟨k-1,oM⟩;rw[Lib.replaceK_hit [c] new k (c::t) 0 (LX c t),zbi,zac rfl];show []++new++Lib.replaceK [c] new k t=_
   rw[zS c new t k oM];rfl
  rw[List.count_cons_of_ne h]at hk;rw[zbi,zab h,<-zS b new t k hk];cases k with
  | zero=>rfl
  | succ k=>
   rw[Lib.replaceK,Lib.replaceK,J7 h]
   by_cases S:Lib.index t [b]= -1
   .rw[S];rfl
   have i:=Lib.index_ge t [b];have e: ¬(Lib.index t [b]== -1)=true:=by simpa using S
   have d: ¬(Lib.index t [b]+1== -1)=true:=by simp;omega
   rw[zab S,zab e,zab d];have f:(Lib.index t [b]+1).toNat=(Lib.index t [b]).toNat+1:=oM;have g:(Lib.index t [b]).toNat+1+[b].length=((Lib.index t [b]).toNat+[b].length)+1:=oM;rw[f,g,zdd,zev];rfl
def LY (b:UInt8) (new s:L8) (h:new≠[b]):Lib.replaceAll s [b] new=s.flatMap λc=>if c=b then new else [c]:=by
 unfold Lib.replaceAll Lib.replace;rw[zab (by simpa using λe=>h e.symm)];refine zS b new s _ ?_;unfold Lib.replaceNum;rw[zac (.inl dC),Lib.count_one];exact zbk _
def Pt (w:Wd) (k:Nat) (o:Array Obj):aS noB w (Go.Sort.grow (w.drewN k) o):=by
 refine⟨rfl,rfl,rfl,?_,λb h _=>?_⟩
 .show w.heap.size<=(w.heap++o).size
  rw[Array.size_append];omega
 show(w.heap++o)[b]? =w.heap[b]?
 rw[zfw h]
section
variable {w:Wd}
def zT (n:Int) (h:cB n) (S:gK w):Rk prog 149 [.int .i64 n,I 10] w (str (Lib.itoa n)):=
 Calls.mono (Tryz.strconv_FormatInt_10 n h.1 h.2 w S.pow) λe f d=>by
  obtain⟨rfl,k,o,rfl⟩:=d;exact⟨rfl,Pt w k o⟩
def DN (b:Bool):aX prog 150 [.bool b] w λv h=>v=str (if b=true then [116,114,117,101]else [102,97,108,115,101])/\w=h:=
 lN (by
  have:=Tryz.strconv_FormatBool b w;cases b<;>exact this)
def Ox (l:L8) (f:l.length<=10000000) (S:gK w):Rk prog 152 [str l,str [32],str [92,117,48,48,50,48]] w (str (l.flatMap λc=>if c=32 then [92,117,48,48,50,48]else [c])):=by
 obtain⟨m,d⟩:=S.len;have h:=Lib.countB_le ⟨#[32]⟩ dC l.length ⟨l.toArray⟩ (by rw[Mw.size_mk];exact zbk _);rw[Mw.size_mk]at h
 have:=rD (Tryz.strings_ReplaceAll ⟨l.toArray⟩ ⟨#[32]⟩ ⟨#[92,117,48,48,50,48]⟩ m w (by rw[Mw.size_mk];omega) d dC (by
  rw[Mw.size_mk];show l.length+Lib.countB ⟨l.toArray⟩ ⟨#[32]⟩*6<=_
  omega))
 have e:Lib.replaceAll l [32] [92,117,48,48,50,48]=l.flatMap λc=>if c=32 then [92,117,48,48,50,48]else [c]:=LY 32 _ l dC
 rw[<-e];exact this
def U2:aX prog 154 [] w λv d=>∃b:Nat,v=.slice (some ⟨b,0,none⟩) 12 12/\True/\cO noB (blk b (mo.flatMap gG) 9) w d:=by
 have H:=Sep.aI w;refine Ut func154 ?_;refine V1 ?_;refine Bs H (mo.flatMap gG) (λS e h k=>?_);refine V1 ?_;exact⟨S,rfl,trivial,h.bf⟩
def U3 (x:bH) (S:eX x=true) (q:cB x.n) (j:gK w):Rk prog 90 [agg (aQ x)] w (str (iE x)):=by
 have H:=Sep.aI w;have W:=BX q.1 q.2;obtain⟨r,ay⟩: ∃r,r=iE x:=⟨_,rfl⟩;rw[<-ay];unfold iE at ay;unfold eX at S;refine dL func90 ?_;refine Sr (bK H (cs:=aQ x) rfl (h:=λb0 w2 i k0=>?_));refine Cz (λg=>?_) (λg=>?_)
 .rw[zac g]at ay S
  refine Kz (zT x.n q (j.aK i.au)) (λwa E ka=>?_);refine V2 ?_;exact⟨by rw[ay];rfl,E.au⟩
 rw[zab g]at ay S;refine Cz (λk=>?_) (λk=>?_)
 .rw[zac k]at ay S
  refine Kz (zT x.n q (j.aK i.au)) (λwb F kb=>?_);refine V1 ?_;exact⟨by rw[ay];rfl,F.au⟩
 rw[zab k]at ay S;refine Cz (λa=>?_) (λa=>?_)
 .rw[zac a]at ay S
  refine V3 ?_;refine fF (DN (decide (x.n=1))) (h:=?_);refine V1 ?_;exact⟨by rw[ay];by_cases Q:x.n=1<;>simp only[Q,decide_true,decide_false,if_true,if_false]<;>rfl,i.au⟩
 rw[zab a]at ay S;refine Cz (λc=>?_) (λc=>?_)
 .rw[zac c]at ay S
  simp only[decide_eq_true_eq]at S;obtain⟨_,d,o⟩:=S;have Z:=adW x.s;refine Kz (abH x.s oM (j.aK i.au).utf) (λwc G kc=>?_);rw[show JO x.s=(vW x.s,0) by unfold JO;rw[zac o]];refine Kz (Ox (vW x.s) oM (j.aK G.au)) (λwd J kd=>?_);refine V1 ?_;exact⟨by rw[ay];rfl,J.au⟩
 rw[zab c]at ay S;refine Cz (λt=>?_) (λt=>?_)
 .rw[zac t]at ay S
  simp only[decide_eq_true_eq]at S;obtain⟨X,d⟩:=S
  have z:fB iN ⟨false,0,x.s⟩=0:=by
   have e:isC iN.kind ⟨false,0,x.s⟩=decide ((0:Int)=0/\x.s.length<=1024):=rfl;have O:mX iN=true:=rfl;unfold fB;rw[O,zab dC,zab sM,e,zac (by simp[d])]
  refine Sr (Vb (aG iN) ?_);refine V2 ?_;refine Vb (aj ⟨false,0,x.s⟩) ?_;refine Kz (LW ⟨false,0,x.s⟩ ⟨(by show(-9223372036854775808:Int)<=0;decide),(by show(0:Int)<=9223372036854775807;decide)⟩ (j.aK i.au).utf) (λwe K ke=>?_);rw[show uy ⟨false,0,x.s⟩=(120::zC x.s,0)from zac z];refine V7 ?_;exact⟨by rw[ay];rfl,K.au⟩
 rw[zab t]at ay S;refine Cz (λu=>?_) (λu=>?_)
 .rw[zac u]at ay S
  simp only[decide_eq_true_eq]at S;refine Kz (RG x.n) (λwf L kf=>?_);refine V1 ?_;exact⟨by rw[ay];rfl,L.au⟩
 rw[zab u]at ay S;simp only[decide_eq_true_eq]at S;obtain⟨R,v,_,_⟩:=S;have A:=ag1 R v;rw[<-ay]at A;have y:(((x.kind-7).toNat:Nat):Int)=x.kind-7:=zcv oM;refine Dz (λp wg M=>?_);refine Gp p 1 rfl rfl (λ_=>(ah.yt rfl)) (V1 ?_);refine Gc p 3 (((x.kind-7).toNat:Nat):Int) ?_;refine p8 p 0 [(3,true),(2,false),(1,true)] rfl kR (U2) rfl kR kR (λv' T P=>?_);obtain⟨N,rfl,_,C,F1,Y,m⟩:=P;have D:=M.new C Y (λb V=>(m b V).resolve_left id);have hR:Rd T (some ⟨N,0,none⟩) gG 1 mo:=Sep.mg D At0 rfl;refine⟨sL,?_⟩;refine Gp p 4 rfl rfl (λ_=>(ah.fT (l:=mo) (enc:=gG) rfl rfl hR (fP A))) (GS (Gt rfl (ah.yh (f:=0) rfl hR A rfl) ?_));refine V1 ?_;exact⟨rfl,D.au⟩
end
def join_eq (s:UInt8): ∀ws:List (L8),Lib.join ws [s]=jo s ws
 | []=>rfl
 | [w]=>Lib.join_one w [s]
 | w::x::l=>by
  have i:=join_eq s (x::l);show _=w++s::jo s (x::l)
  rw[<-i];simp[Lib.join,List.intercalate]
attribute [local irreducible] eX iE
section
variable {w:Wd}
def ahp {l:List (L8)} {v:Value} (F:aP w v gG 1 l) (J:l.length<=1000000) (g:(jo 32 l).length<=140737488355328):Rk prog 52 [v,str [32]] w (str (jo 32 l)):=by
 obtain⟨A,c,rfl,⟨C,D⟩,hR⟩:=F
 by_cases u:l=[]
 .subst u
  exact Calls.mono (Tryz.strings_Join_none A c ⟨#[32]⟩ w) λe L E=>by
   obtain⟨rfl,rfl⟩:=E;exact⟨rfl,aS.refl _ _⟩
 have S:0<l.length:=zfn.2 u;obtain⟨H,rfl⟩:=hR.addr S;obtain⟨M,t⟩:=aN S;obtain⟨a,n,h⟩:=hR.cell (f:=0) t rfl;injection n with n;subst n
 have r:=World.cell?_spot h;obtain⟨b,o,sp⟩:=H;have m:sp=none:=r;subst m
 have q:b<w.heap.size:=by
  refine Classical.byContradiction λK=>?_;unfold World.cell? at h;rw[zdo (by show w.heap.size<=b;omega)]at h;cases h
 have i:(l.map λs:L8=>(⟨s.toArray⟩:ByteArray)).map (·.data.toList)=l:=by
  rw[zdn];exact(zcu λs _=>rfl).trans (List.map_id l)
 have:=rD (Tryz.strings_Join b o c (l.map λs=>⟨s.toArray⟩) ⟨#[32]⟩ w (λj x z=>by
  rw[zbw]at z;obtain⟨s,G,rfl⟩:=zbb.1 z;obtain⟨a,p,d⟩:=hR.cell (f:=0) G rfl;injection p with p;subst p
  rw[zfc,zfi,Addr.add_lit]at d;exact d) q I4 (by rw[zae];exact C) (by rw[i];show(Lib.join l [32]).length<=_;rw[join_eq];exact g))
 rw[i,zae]at this;have e:Lib.join l [32]=jo 32 l:=join_eq 32 l;rw[<-e];exact this
def U4 {l:List bH} {vl:Value} (Z:aP w vl aQ 3 l) (O: ∀x∈l,cB x.n) (L:gK w):Rk prog 51 [vl] w (.tuple #[str (jd l).1,I (jd l).2]):=by
  obtain⟨C,n,rfl,⟨hn,a⟩,hC⟩:=Z;have H:=Sep.aI w;obtain⟨v,ay⟩: ∃v,v=jd l:=⟨_,rfl⟩;rw[<-ay];unfold jd at ay;refine dL func51 ?_;refine Cz (λA=>?_) (λA=>?_)
  . rw[zac oM]at ay
    refine V2 ?_;exact⟨by rw[ay];rfl,H.au⟩
  rw[zab oM]at ay;refine V4 ?_;have m:=Sep.iX H 9 1 gG;refine aM (λx:Nat×Value=>[(0,.slice C l.length n),(4,x.2),(10,.slice C l.length n),(11,I l.length),(12,I x.1)]) (λx P=>(x.1<=l.length/\∀(j:Nat) y,j<x.1->l[j]? =some y->eX y=true)/\Sep w noB [aY 9 1 gG x.2 ((l.take x.1).map iE)] P) (λx _=>l.length-x.1) (0,.slice none 0 0) tR ⟨⟨zai _,λj x p=>zas p (zdy j)⟩,m⟩ (λx τ T Y=>?_);obtain⟨i,v1⟩:=x;obtain⟨⟨hi,S⟩,m⟩:=Y;dsimp only at hi S m;have o:((l.take i).map iE).length=i:=by rw[zae,zah];omega
  refine Lp ?_;refine Cz (λX=>?_) (λX=>?_)
  . have E:i<l.length:=oM
    obtain⟨x,d⟩:=aN E;have q:=O x (zag d);have G:(l.take (i+1)).map iE=(l.take i).map iE++[iE x]:=by rw[zaq,d,zan];rfl
    refine Az (λb6 wb Hb ka=>?_);refine Tz (λwc Q=>?_);refine Kz (X3 x q (L.aK Q.au).utf) (λwd J kb=>?_);refine O1 ?_;refine Qn (Cd rfl (λz=>?_) (λz=>?_))
    . have F:l.all eX=false:=by
        rw[<-zdr,zaz];intro h;have:=h x (zag d);rw[this]at z;cases z
      rw[zac F]at ay;refine V2 ?_;exact⟨by rw[ay];rfl,J.au⟩
    have s:eX x=true:=by simpa using z
    refine Kz (U3 x s q (L.aK J.au)) (λwe R kc=>?_);refine Bs R ([iE x].flatMap gG) (λbs wf V kd=>?_);refine eH V (news:=[iE x]) At1 (by rw[o];unfold maxLen;simp;omega) (by rw[o];show(i+1)*16<=_;omega) (by intro u N;simp only[zbi,zfa,gG,zbt,zax,zal,or_false]at N;subst N;rfl) (h:=?_);intro c wg K;rw[<-G]at K;refine V3 ?_;exact ak (i+1,c) tR ⟨⟨dO,λj y p t=>by
    by_cases e:j=i
    . subst e;rw[d]at t;injection t with t;rw[<-t];exact s
    exact S j y (by dsimp only at p;omega) t⟩,(K.aJ).firsts (l:=[_])⟩ dO
  have r:i=l.length:=oM
  have g:l.all eX=true:=zaz.2 λx f=>by
    obtain⟨j,p⟩:=zdf f;exact S j x (by have:=fP p;omega) p
  rw[zab (by rw[g];simp)]at ay;rw[r,zbo]at m;rw[r,zbo]at o
  have M:(jo 32 (l.map iE)).length<=(6146+1)*l.length:=by
    have:=BZ 32 (k:=6146) (ws:=l.map iE) λw b=>by
      obtain⟨x,f,rfl⟩:=zav.1 b;exact XK (zaz.1 g x f) (O x f)
    rw[zae]at this;exact this
  obtain⟨B,cb,rfl,D,hB⟩:=Sep.bX m At0;refine Kz (ahp (w:=T) ⟨B,cb,rfl,⟨D,Sep.aen m At0⟩,eF m At0⟩ oM oM) (λwh W ke=>?_);refine V2 ?_;exact⟨by rw[ay];rfl,W.au⟩
end
end
open Go.Proofs.Tryz Go.RowKit
def tK (b:Nat) (l:L8) (at_:Nat) (e:Int):HP:=blk b [str l,I at_,I e] 354
def jB (e k:Int):Int:=if e=0 then k else e
def eB (l:L8) (at_:Nat) (e:Int):UInt8×Nat×Int:=if e≠0 then(0,at_,e)else if at_=l.length then(0,at_,3)else(l.getD at_ 0,at_+1,0)
def lC (l:L8) (at_:Nat) (e:Int) (c:UInt8):Nat×Int:=((eB l at_ e).2.1,if(eB l at_ e).1=c then(eB l at_ e).2.2 else jB (eB l at_ e).2.2 41)
def fG (l:L8) (at_:Nat) (e:Int):Nat×Nat×Int:=
 match oo (eB l at_ e).1 with
 | none=>(0,(eB l at_ e).2.1,jB (eB l at_ e).2.2 41)
 | some d=>(d,(eB l at_ e).2.1,(eB l at_ e).2.2)
def oC (l:L8) (at_:Nat) (e:Int) (second:Bool):Nat×Nat×Int:=
 let d0:=fG l at_ e
 let e1:=if second=true/\d0.1≠13 then jB d0.2.2 41 else d0.2.2
 let d1:=fG l d0.2.1 e1
 let n1:=16*d0.1+d1.1
 let e2:=if second≠decide (220<=n1/\n1<=223)then jB d1.2.2 41 else d1.2.2
 let d2:=fG l d1.2.1 e2
 let n2:=16*n1+d2.1
 let d3:=fG l d2.2.1 d2.2.2
 (16*n2+d3.1,d3.2.1,d3.2.2)
def take_at {l:L8} {e:Int} (h:at_<=l.length):(eB l at_ e).2.1<=l.length:=by
 unfold eB
 split
 .exact h
 split
 .exact h
 dsimp only;omega
def sF {l:L8} {e:Int} (h:at_<=l.length):(fG l at_ e).2.1<=l.length:=by
 unfold fG
 split<;>exact take_at h
def u6 (l:L8) (at_:Nat) (e:Int):(fG l at_ e).1<16:=by
 unfold fG
 split
 .exact Nat.zero_lt_succ 15
 rename_i h;exact adL h
def RQ {l:L8} {e:Int} {s:Bool} (h:at_<=l.length):(oC l at_ e s).2.1<=l.length:=sF (sF (sF (sF h)))
def Fe {l:L8} {at_:Nat} {e:Int} {c:UInt8} (h:at_<=l.length):(lC l at_ e c).1<=l.length:=take_at h
section
variable {w:Wd} {l:L8}
def oU {e:Int} (k:Int) (d:(tK b l at_ e).ok F w):aX prog 276 [aC b,I k] w λr f=>r=.tuple #[]/\cO F (tK b l at_ (jB e k)) w f:=by
 have H:=Sep.dA d;unfold tK at H;refine dn func276 ?_;refine Cz (λh=>?_) (λh=>?_)
 .have ay:jB e k=k:=zac h
  refine Uz (λg S=>?_);refine V0 ?_;exact⟨rfl,by rw[ay];exact S.bf⟩
 have ay:jB e k=e:=zab h;refine V0 ?_;exact⟨rfl,by rw[ay];exact H.bf⟩
def LZ (u:(tK b l at_ e).ok F w) (J:l.length<=1000000) (G:at_<=l.length):aX prog 341 [aC b] w λr C=>r=B (eB l at_ e).1/\cO F (tK b l (eB l at_ e).2.1 (eB l at_ e).2.2) w C:=by
 have H:=Sep.dA u;unfold tK at H;obtain⟨f,ay⟩: ∃f,f=eB l at_ e:=⟨_,rfl⟩;rw[<-ay];unfold eB at ay;refine dL func341 ?_;refine Cz (λh=>?_) (λh=>?_)
 .rw[zac h]at ay
  refine V1 ?_;exact⟨by rw[ay];rfl,by rw[ay];exact H.bf⟩
 have h:=h;rw[zab h]at ay;refine Dz (λq L p=>?_);refine O10 ?_;refine fZ q kR ?_;refine Cz (λk=>?_) (λk=>?_)
 .rw[zac oM]at ay
  refine V1 ?_;obtain⟨D,j,t,d⟩:=p.bG At0;refine aO (oU (l:=l) 3 j) rfl rfl (λK M A=>?_);obtain⟨rfl,i,o,v,z⟩:=A;have m:=d _ o _ i v z;have S:e=0:=zcd.1 h;have g:jB e 3=3:=zac S;rw[g]at m;refine V1 ?_;exact⟨by rw[ay];rfl,by rw[ay];exact m.bf⟩
 rw[zab oM]at ay;refine V4 ?_;refine Vc ((at_+1:Nat):Int) ?_;refine Uz (λN E=>?_);refine Dz (λs O n=>?_);refine V8 ?_;refine Gc s 8 (at_:Int) ?_;refine GS (Gn rfl (λ_=>(ah.zw rfl rfl oM)) ?_);refine V1 ?_;exact⟨by rw[ay];rfl,by rw[ay];have S:e=0:=zcd.1 h;rw[S]at n;exact n.bf⟩
def L6 {b at_:Nat} {e:Int} (c:UInt8) (v:(tK b l at_ e).ok F w) (u:l.length<=1000000) (t:at_<=l.length):aX prog 275 [aC b,B c] w λr A=>r=.tuple #[]/\cO F (tK b l (lC l at_ e c).1 (lC l at_ e c).2) w A:=by
  have H:=Sep.dA v;refine dn func275 ?_;refine V1 ?_;obtain⟨q,g,j,S⟩:=H.bG At0;refine aO (LZ (l:=l) g u t) rfl rfl (λz C o=>?_);obtain⟨rfl,f,i,m,n⟩:=o;have p:=S _ i _ f m n;refine Cz (λd=>?_) (λd=>?_)
  . have ay:lC l at_ e c=((eB l at_ e).2.1,jB (eB l at_ e).2.2 41):=by
      unfold lC;rw[zab (λh=>d (by rw[h]))]
    refine V1 ?_;obtain⟨q,g,j,S⟩:=p.bG At0;refine aO (oU (l:=l) 41 g) rfl rfl (λz D o=>?_);obtain⟨rfl,f,i,m,n⟩:=o;have s:=S _ i _ f m n;refine V0 ?_;exact⟨rfl,by rw[ay];exact s.bf⟩
  have ay:lC l at_ e c=((eB l at_ e).2.1,(eB l at_ e).2.2):=by
    unfold lC;rw[zac (UInt8.toNat_inj.1 (by have h:=d;omega))]
  refine V0 ?_;exact⟨rfl,by rw[ay];exact p.bf⟩
def K7 (l:L8):iI l=if(Lib.decodeGo ⟨l.toArray⟩).1=65533/\(Lib.decodeGo ⟨l.toArray⟩).2<2 then none else some (Lib.decodeGo ⟨l.toArray⟩):=by
 by_cases d:l=[]
 .subst d;rfl
 have j:Lib.decodeGo ⟨l.toArray⟩=decodeL l:=by
  unfold Lib.decodeGo;rw[zab (by rw[Mw.size_mk];exact λe=>d (zbf e))];rfl
 rw[j];cases hn:iI l with
 | none=>
  unfold iI at hn
  split at hn
  .rename_i h
   rcases h with h | ⟨g,f⟩
   .exact zas h d
   rw[zac ⟨g,oM⟩]
  cases hn
 | some p=>
  obtain⟨r,n⟩:=p;obtain⟨S,g,_,_⟩:=uO hn;rw[S,zab];rintro⟨f,i⟩;dsimp only at f i;unfold iI at hn;rw[zac (.inr ⟨by rw[S];exact f,by rw[S];dsimp only;omega⟩)]at hn;cases hn
def aeC (l:L8) (g:nQ w):Rk prog 343 [str l] w (.tuple #[I32 (lJ l).1,I (lJ l).2,.bool (iI l).isSome]):=by
 have H:=Sep.aI w;refine dL func343 ?_;refine Kz (rD (Tryz.utf8_DecodeRuneInString ⟨l.toArray⟩ _ (g.aK H.au))) (λj d k=>?_);refine Sz (λe=>?_) (λe=>?_)
 .have i:=e
  refine Cz (λf=>?_) (λf=>?_)
  .have ay:=K7 l
   rw[zac ⟨oM,oM⟩]at ay;have S:lJ l=(0,0):=by unfold lJ;rw[ay];rfl
   refine V3 ?_;exact⟨by rw[S,ay];rfl,d.au⟩
  have ay:=K7 l;rw[zab (λh=>oM)]at ay;refine V5 ?_;have ay:=K7 l;rw[zab oM]at ay;have S:lJ l=Lib.decodeGo ⟨l.toArray⟩:=by unfold lJ;rw[ay];rfl
  exact⟨by rw[S,ay];rfl,d.au⟩
 have i:=e;refine V6 ?_;have ay:=K7 l;rw[zab oM]at ay;have S:lJ l=Lib.decodeGo ⟨l.toArray⟩:=by unfold lJ;rw[ay];rfl
 exact⟨by rw[S,ay];rfl,d.au⟩
end
def amW (c:UInt8):bits .or .u8 (c.toNat:Int) 32=((c||| 32).toNat:Int):=by
 have key: ∀i:Fin 256,bits .or .u8 (i.val:Int) 32=((i.val.toUInt8||| 32).toNat:Int):=by decide+kernel
 have:=key ⟨c.toNat,c.toNat_lt⟩;have e:(c.toNat).toUInt8=c:=sM;simpa only[e]using this
def abL (c:UInt8):oo c=if Lib.indexByte tY (c||| 32)<0\/c.toNat<48\/(57<c.toNat/\c.toNat<65)then none else some (Lib.indexByte tY (c||| 32)).toNat:=by
 have key: ∀i:Fin 256,oo i.val.toUInt8=if Lib.indexByte tY (i.val.toUInt8||| 32)<0\/i.val.toUInt8.toNat<48\/(57<i.val.toUInt8.toNat/\i.val.toUInt8.toNat<65)then none else some (Lib.indexByte tY (i.val.toUInt8||| 32)).toNat:=by decide+kernel
 have:=key ⟨c.toNat,c.toNat_lt⟩;have e:(c.toNat).toUInt8=c:=sM;simpa only[e]using this
section
variable {w:Wd} {l:L8}
def CS (M:(tK b l at_ e).ok F w) (L:l.length<=1000000) (J:at_<=l.length):aX prog 366 [aC b] w λr N=>r=I (fG l at_ e).1/\cO F (tK b l (fG l at_ e).2.1 (fG l at_ e).2.2) w N:=by
 have H:=Sep.dA M;obtain⟨c,p⟩: ∃c,c=(eB l at_ e).1:=⟨_,rfl⟩;have K:=c.toNat_lt;have d:=abL c;refine dL func366 ?_;refine V2 ?_;obtain⟨s,g,j,S⟩:=H.bG At0;refine aO (LZ (l:=l) g L J) rfl rfl (λv O o=>?_);obtain⟨rfl,f,i,m,n⟩:=o;have q:=S _ i _ f m n;rw[<-p];refine V2 ?_;refine Vv (ah.orE rfl rfl (amW c)) (fF (zR tY (c||| 32)) (h:=?_));refine Sz (λD=>?_) (λD=>?_)
 .refine V4 ?_
  have ay:fG l at_ e=(0,(eB l at_ e).2.1,jB (eB l at_ e).2.2 41):=by
   unfold fG;rw[<-p,d,zac oM]
  obtain⟨s,g,j,S⟩:=q.bG At0;refine aO (oU (l:=l) 41 g) rfl rfl (λv Q o=>?_);obtain⟨rfl,f,i,m,n⟩:=o;have u:=S _ i _ f m n;refine V1 ?_;exact⟨by rw[ay];rfl,by rw[ay];exact u.bf⟩
 refine Sz (λE=>?_) (λE=>?_)
 .refine V2 ?_
  have ay:fG l at_ e=(0,(eB l at_ e).2.1,jB (eB l at_ e).2.2 41):=by
   unfold fG;rw[<-p,d,zac oM]
  obtain⟨s,g,j,S⟩:=q.bG At0;refine aO (oU (l:=l) 41 g) rfl rfl (λv R o=>?_);obtain⟨rfl,f,i,m,n⟩:=o;have z:=S _ i _ f m n;refine V1 ?_;exact⟨by rw[ay];rfl,by rw[ay];exact z.bf⟩
 refine Sz (λG=>?_) (λG=>?_)
 .refine Cz (λC=>?_) (λC=>?_)
  .refine V1 ?_
   have ay:fG l at_ e=(0,(eB l at_ e).2.1,jB (eB l at_ e).2.2 41):=by
    unfold fG;rw[<-p,d,zac oM]
   obtain⟨s,g,j,S⟩:=q.bG At0;refine aO (oU (l:=l) 41 g) rfl rfl (λv V o=>?_);obtain⟨rfl,f,i,m,n⟩:=o;have A:=S _ i _ f m n;refine V1 ?_;exact⟨by rw[ay];rfl,by rw[ay];exact A.bf⟩
  refine V2 ?_
  have ay:fG l at_ e=((Lib.indexByte tY (c||| 32)).toNat,(eB l at_ e).2.1,(eB l at_ e).2.2):=by
   unfold fG;rw[<-p,d,zab oM]
  have t:(((Lib.indexByte tY (c||| 32)).toNat:Nat):Int)=Lib.indexByte tY (c||| 32):=zcv oM;exact⟨by rw[ay];show _=I (((Lib.indexByte tY (c||| 32)).toNat:Nat):Int);rw[t];rfl,by rw[ay];exact q.bf⟩
 refine V4 ?_
 have ay:fG l at_ e=((Lib.indexByte tY (c||| 32)).toNat,(eB l at_ e).2.1,(eB l at_ e).2.2):=by
  unfold fG;rw[<-p,d,zab oM]
 have t:(((Lib.indexByte tY (c||| 32)).toNat:Nat):Int)=Lib.indexByte tY (c||| 32):=zcv oM;exact⟨by rw[ay];show _=I (((Lib.indexByte tY (c||| 32)).toNat:Nat):Int);rw[t];rfl,by rw[ay];exact q.bf⟩
def RS (S:a<268435456) (h:b<16):bits .or .i64 ((16*a:Nat):Int) (b:Int)=((16*a+b:Nat):Int):=by
 have key:16*a||| b=16*a+b:=(Nat.two_pow_add_eq_or_of_lt (i:=4) h a).symm
 show IntKind.i64.wrap ((BitVec.ofInt 64 ((16*a:Nat):Int)||| BitVec.ofInt 64 (b:Int)).toNat:Int)=_
 rw[BitVec.toNat_or,ofInt_u64 _ oM,ofInt_u64 _ oM,key,IntKind.wrap_i64];omega
def RU (h:a<268435456):IntKind.i64.wrap ((a:Int)*2^(Min.min (4:Int).toNat IntKind.i64.bits))=((16*a:Nat):Int):=by
 show IntKind.i64.wrap ((a:Int)*16)=_
 rw[IntKind.wrap_i64];omega
theorem U5 (second:Bool) (hp:(tK b l at_ e).ok F w) (hl:l.length<=1000000) (ha:at_<=l.length):aX prog 342 [aC b,.bool second] w λr T=>r=I32 (oC l at_ e second).1/\cO F (tK b l (oC l at_ e second).2.1 (oC l at_ e second).2.2) w T:=by
 have H:=Sep.dA hp;obtain⟨u,G⟩: ∃d,d=fG l at_ e:=⟨_,rfl⟩;have h0l:=u6 l at_ e;have O:=sF (e:=e) ha;rw[<-G]at h0l O;obtain⟨E,M⟩: ∃E,E=if second=true/\u.1≠13 then jB u.2.2 41 else u.2.2:=⟨_,rfl⟩
 obtain⟨A,J⟩: ∃d,d=fG l u.2.1 E:=⟨_,rfl⟩;have k:=u6 l u.2.1 E;have Q:=sF (e:=E) O;rw[<-J]at k Q;obtain⟨z,y⟩: ∃n,n=16*u.1+A.1:=⟨_,rfl⟩;obtain⟨C,v⟩: ∃C,C=if second≠decide (220<=z/\z<=223)then jB A.2.2 41 else A.2.2:=⟨_,rfl⟩
 obtain⟨Y,K⟩: ∃d,d=fG l A.2.1 C:=⟨_,rfl⟩;have a:=u6 l A.2.1 C;have R:=sF (e:=C) Q;rw[<-K]at a R;obtain⟨d3,L⟩: ∃d,d=fG l Y.2.1 Y.2.2:=⟨_,rfl⟩;have c:=u6 l Y.2.1 Y.2.2;have h3a:=sF (e:=Y.2.2) R;rw[<-L]at c h3a
 have ay:oC l at_ e second=(16*(16*z+Y.1)+d3.1,d3.2.1,d3.2.2):=by
  rw[L,K,v,y,J,M,G];rfl
 refine dn func342 ?_;refine V2 ?_;obtain⟨W,i,o,S⟩:=H.bG At0;refine aO (CS (l:=l) i hl ha) rfl rfl (λZ w4 s=>?_);obtain⟨rfl,g,j,p,q⟩:=s;have X:=S _ j _ g p q;rw[<-G];rw[<-G]at X;refine Am ?_;refine Qn (dU (λ_:Unit=>[(0,aC b),(1,.bool second),(5,I u.1)]) (λ_ T=>Sep w F [tK b l u.2.1 E] T) ?_ ?_)
 .refine V2 ?_
  refine eO (t:=9) rfl (λV=>?_) (λV=>?_)
  .have P:second=true:=V
   refine Cz (λIe=>?_) (λIe=>?_)
   .have f:jB u.2.2 41=E:=by rw[M,zac ⟨P,λh=>Ie IY⟩]
    refine V1 ?_;obtain⟨W,i,o,S⟩:=X.bG At0;refine aO (oU (l:=l) 41 i) rfl rfl (λZ wa s=>?_);obtain⟨rfl,g,j,p,q⟩:=s;have Ha:=S _ j _ g p q;refine V0 ?_;rw[f]at Ha;exact aA () tR Ha
   have f:u.2.2=E:=by rw[M,zab (λh=>h.2 (by have m:=Ie;omega))]
   refine V0 ?_;rw[f]at X;exact aA () tR X
  have f:u.2.2=E:=by rw[M,zab (λh=>by have m:=V;rw[h.1]at m;cases m)]
  refine V1 ?_;rw[f]at X;exact aA () tR X
 intro _ τ wb Hb;refine Lp ?_;refine V1 ?_;refine Vv (ah.aeA rfl rfl oM (RU oM)) (Mv ?_);obtain⟨W,i,o,S⟩:=Hb.bG At0;refine aO (CS (l:=l) i hl O) rfl rfl (λZ wc s=>?_);obtain⟨rfl,g,j,p,q⟩:=s;have N:=S _ j _ g p q;rw[<-J];rw[<-J]at N;refine Vv (ah.orE rfl rfl (RS oM k)) ?_;rw[<-y];refine Am ?_;refine Qn (dU (λ_:Unit=>[(0,aC b),(1,.bool second),(5,I z)]) (λ_ T=>Sep w F [tK b l A.2.1 C] T) ?_ ?_)
 .refine Sz (λSa=>?_) (λSa=>?_)
  .have x:decide (220<=z/\z<=223)=decide ((z:Int)<=223):=zbg.2 (by have h:=Sa;omega)
   refine O4 ?_;refine Qn (Cd rfl (λIf=>?_) (λIf=>?_))
   .have f:jB A.2.2 41=C:=by rw[v,zac (λh=>by have m:=If;rw[<-x,h]at m;simp at m)]
    refine V1 ?_;obtain⟨W,i,o,S⟩:=N.bG At0;refine aO (oU (l:=l) 41 i) rfl rfl (λZ wd s=>?_);obtain⟨rfl,g,j,p,q⟩:=s;have Hd:=S _ j _ g p q;refine V0 ?_;rw[f]at Hd;exact aA () tR Hd
   have f:A.2.2=C:=by rw[v,zab (λh=>h (by have m:=If;rw[x];revert m;first | (cases second<;>simp;done) | (generalize decide ((z:Int)<=223)=D;cases second<;>cases D<;>simp)))]
   refine V0 ?_;rw[f]at N;exact aA () tR N
  have x:decide (220<=z/\z<=223)=false:=zam (by have h:=Sa;omega);refine O2 ?_;refine Qn (Cd rfl (λIg=>?_) (λIg=>?_))
  .have f:jB A.2.2 41=C:=by rw[v,zac (λh=>by have m:=Ig;rw[<-x,h]at m;simp at m)]
   refine V1 ?_;obtain⟨W,i,o,S⟩:=N.bG At0;refine aO (oU (l:=l) 41 i) rfl rfl (λZ we s=>?_);obtain⟨rfl,g,j,p,q⟩:=s;have He:=S _ j _ g p q;refine V0 ?_;rw[f]at He;exact aA () tR He
  have f:A.2.2=C:=by rw[v,zab (λh=>h (by have m:=Ig;rw[x];revert m;first | (cases second<;>simp;done) | (generalize decide ((z:Int)<=223)=D;cases second<;>cases D<;>simp)))]
  refine V0 ?_;rw[f]at N;exact aA () tR N
 intro _ τ wf Hf;refine Lp ?_;refine V1 ?_;refine Vv (ah.aeA rfl rfl oM (RU oM)) (Mv ?_);obtain⟨W,i,o,S⟩:=Hf.bG At0;refine aO (CS (l:=l) i hl Q) rfl rfl (λZ wg s=>?_);obtain⟨rfl,g,j,p,q⟩:=s;have Hg:=S _ j _ g p q;rw[<-K];rw[<-K]at Hg;refine Vv (ah.orE rfl rfl (RS oM a)) (V2 ?_);refine Vv (ah.aeA rfl rfl oM (RU oM)) (Mv ?_);obtain⟨W,i,o,S⟩:=Hg.bG At0;refine aO (CS (l:=l) i hl R) rfl rfl (λZ wh s=>?_);obtain⟨rfl,g,j,p,q⟩:=s;have Hh:=S _ j _ g p q;rw[<-L];rw[<-L]at Hh;refine Vv (ah.orE rfl rfl (RS oM c)) (V2 ?_);exact⟨by rw[ay];rfl,by rw[ay];exact Hh.bf⟩
end
def akY {x:Nat} (h:x<256):bits .and .u8 (x:Int) 7=((x%8:Nat):Int):=by
 have key: ∀i:Fin 256,i.val&&& 7=i.val%8:=dC;have:=u8_and_nat x 7 h dC;rw[key ⟨x,h⟩]at this;exact this
section
variable {w:Wd} {l:L8}
def ahq (l:L8) (R:l.length<=1000000) (o:nQ w):aX prog 344 [str l] w λv N=>(∃b,v=.bool b)/\aS noB w N:=by
 have H:=Sep.aI w;refine dL func344 ?_;refine Cz (λf=>?_) (λf=>?_)
 .refine V1 ?_
  exact⟨⟨_,rfl⟩,H.au⟩
 refine V1 ?_;refine Vv (ah.zw (i:=0) rfl rfl oM) ?_;have e:=(l.getD 0 0).toNat_lt;refine Vv (ah.BD (i:=(l.getD 0 0).toNat) rfl rfl oM) ?_;rw[Addr.add_lit];refine afk (by rw[zde,zfc];exact(o.aK H.au).1 _ e) rfl rfl ?_;refine V3 ?_;obtain⟨v,M⟩: ∃v,v=Lib.firstT (l.getD 0 0).toNat:=⟨_,rfl⟩;have n:v<256:=by have:=Lib.firstT_cases (l.getD 0 0).toNat;omega
 rw[<-M];refine Vv (ah.Ej rfl rfl (akY n)) (Vv (ah.qA (c:=((v%8:Nat):Int)) rfl II) ?_);refine Cz (λk=>?_) (λk=>?_)
 .refine V1 ?_
  exact⟨⟨_,rfl⟩,H.au⟩
 refine V1 ?_;refine Vv (ah.El (m:=v) (s:=4) rfl rfl dC) ?_;obtain⟨q,L⟩: ∃q,q=v/2^4:=⟨_,rfl⟩;have g:q<16:=oM;rw[<-L];refine Vv (ah.BD (i:=q) rfl rfl oM) ?_;rw[Addr.add_lit,zde]
 refine acF (us:=[.int .u8 (Lib.accLo q),.int .u8 (Lib.accHi q)]) (λj u S=>by
  obtain⟨J,K⟩:=(o.aK H.au).2 q g;rw[Addr.add_lit]
  match j,S with
  | 0,S=>injection S with S;subst S;rw[zfi,Nat.mul_comm,zde];exact J
  | 1,S=>injection S with S;subst S;rw[Nat.mul_comm,zde];exact K) rfl rfl rfl ?_
 refine Az (λG W O V=>?_);refine Tz (λX Q=>?_);refine Dz (λd Y h=>?_);refine V3 ?_;refine gu (t:=25) rfl (λz=>?_) (λz=>?_)
 .refine V1 ?_
  refine Gp d 4 rfl rfl (λ_=>(ah.zw (i:=1) rfl rfl oM)) (V4 ?_);refine gu (t:=31) rfl (λA=>?_) (λA=>?_)
  .refine V3 ?_
   exact⟨⟨_,rfl⟩,h.au⟩
  refine V3 ?_;refine Gp d 12 rfl rfl (λ_=>(ah.zw (i:=1) rfl rfl oM)) (O3 ?_);refine fZ d kR ?_;refine Cz (λa=>?_) (λa=>?_)
  .refine V1 ?_
   exact⟨⟨_,rfl⟩,h.au⟩
  refine Sz (λC=>?_) (λC=>?_)
  .refine V1 ?_
   refine Vv (ah.zw (i:=2) rfl rfl oM) (Sz (λD=>?_) (λD=>?_))
   .refine V3 ?_
    exact⟨⟨_,rfl⟩,h.au⟩
   refine V1 ?_;refine Vv (ah.zw (i:=2) rfl rfl oM) (Cz (λp=>?_) (λp=>?_))
   .refine V1 ?_
    exact⟨⟨_,rfl⟩,h.au⟩
   refine V1 ?_;exact⟨⟨_,rfl⟩,h.au⟩
  refine V2 ?_;exact⟨⟨_,rfl⟩,h.au⟩
 refine Sz (λE=>?_) (λE=>?_)
 .refine V1 ?_
  refine Vv (ah.zw (i:=2) rfl rfl oM) (Sz (λF=>?_) (λF=>?_))
  .refine V3 ?_
   exact⟨⟨_,rfl⟩,h.au⟩
  refine V1 ?_;refine Vv (ah.zw (i:=2) rfl rfl oM) (Cz (λr=>?_) (λr=>?_))
  .refine V1 ?_
   exact⟨⟨_,rfl⟩,h.au⟩
  refine V1 ?_;exact⟨⟨_,rfl⟩,h.au⟩
 refine V2 ?_;exact⟨⟨_,rfl⟩,h.au⟩
def Em {g:Wd} {o:Nat} {v:Value} (e:aS F w g) (d: ¬F b) (h:w.cell? ⟨b,o,none⟩=some v):g.cell? ⟨b,o,none⟩=some v:=by
 have S:b<w.heap.size:=by
  refine Classical.byContradiction λf=>?_;unfold World.cell? at h;rw[zdo dO]at h;cases h
 unfold World.cell? at h ⊢;rw[e.block b S d];exact h
def nQ.akZ {g:Wd} (h:nQ w) (S:aS F w g) (e: ¬F 4) (d: ¬F 5):nQ g:=
 ⟨λc f=>Em S e (h.1 c f),λi hi=>⟨Em S d (h.2 i hi).1,Em S d (h.2 i hi).2⟩⟩
def U6 {n:Wd} (j:(tK b l at_ e).ok F w) (h:nQ w) (m:aS F w n):nQ n:=by
 have S:w.cell? ⟨b,0,none⟩=some (str l):=by
  unfold World.cell?;have:=j.2;simp only[this];rfl
 refine h.akZ m (λg=>?_) (λg=>?_)
 .have i:=(j.1 _).1 g
  have d:=h.1 0 dC;rw[<-i]at S;have f:=S.symm.trans d;cases f
 have i:=(j.1 _).1 g;have d:=(h.2 0 dC).1;rw[<-i]at S;have f:=S.symm.trans d;cases f
def og (l:L8) (at_:Nat):L8×Nat×Bool:=
 if(l.getD at_ 0).toNat<32 then([],at_,false)else match iI (l.drop at_)with
  | some (_,n)=>((l.drop at_).take n,at_+n,true)
  | none=>([],at_,false)
def abM {b at_:Nat} (A:(tK b l at_ 0).ok F w) (X:l.length<=1000000) (W:at_<l.length) (G:nQ w):aX prog 278 [aC b] w λr R=>∃x:Int,r=str (og l at_).1/\((og l at_).2.2=true↔x=0)/\cO F (tK b l (og l at_).2.1 x) w R:=by
 have H:=Sep.dA A;unfold tK at H;obtain⟨q,ay⟩: ∃q,q=og l at_:=⟨_,rfl⟩;rw[<-ay];unfold og at ay;have t:(l.drop at_).length=l.length-at_:=zbm;have u:(l.drop at_).getD 0 0=l.getD at_ 0:=by simp[zao]
 refine dL func278 ?_;refine Dz (λJ Z K=>?_);refine V8 ?_;refine GS (Gn rfl (λ_=>(ah.qd (l:=l) (i:=at_) rfl rfl oM)) ?_);refine Kz (aeC (l.drop at_) (U6 A G K.au)) (λT s Y=>?_);refine V8 ?_;refine Vv (ah.zw (i:=0) rfl rfl oM) ?_;rw[u];refine Cz (λa=>?_) (λa=>?_)
 .rw[zac oM]at ay
  refine V1 ?_;obtain⟨D,e,j,S⟩:=s.bG At0;refine aO (oU (l:=l) 41 e) rfl rfl (λC wb f=>?_);obtain⟨rfl,d,g,o,p⟩:=f;have L:=S _ g _ d o p;refine V1 ?_;exact⟨41,by rw[ay];rfl,by rw[ay];simp,by rw[ay];exact L.bf⟩
 rw[zab oM]at ay;refine O2 ?_;refine Qn (Cd rfl (λk=>?_) (λk=>?_))
 .obtain⟨⟨r,n⟩,m⟩:=zfh.1 k
  obtain⟨_,Q,v,_⟩:=uO m;have z:lJ (l.drop at_)=(r,n):=by unfold lJ;rw[m];rfl
  rw[m]at ay;rw[t]at v;rw[z];refine V5 ?_;refine Vv (ah.Rz (c:=((at_+n:Nat):Int)) rfl rfl (by show(at_:Int)+(n:Int)=_;omega) oM) (Uz (λwc M=>?_));refine V2 ?_;refine Vv (ah.qP (l:=l.drop at_) (i:=n) rfl rfl oM) (V1 ?_);exact⟨0,by rw[ay];rfl,by rw[ay];simp,by rw[ay];exact M.bf⟩
 have m:iI (l.drop at_)=none:=by
  cases h:iI (l.drop at_)with
  | none=>rfl
  | some y=>rw[h]at k;cases k
 rw[m]at ay;refine V1 ?_;refine aO (ahq (l.drop at_) oM (U6 A G s.au)) rfl rfl (λC wd f=>?_);obtain⟨⟨V,rfl⟩,d⟩:=f;have E:=s.aK d;refine O2 ?_;refine Qn (Cd rfl (λP=>?_) (λP=>?_))
 .refine V1 ?_
  obtain⟨D,e,j,S⟩:=E.bG At0;refine aO (oU (l:=l) 3 e) rfl rfl (λC we f=>?_);obtain⟨rfl,d,g,o,p⟩:=f;have N:=S _ g _ d o p;refine V1 ?_;exact⟨3,by rw[ay];rfl,by rw[ay];simp,by rw[ay];exact N.bf⟩
 refine V1 ?_;obtain⟨D,e,j,S⟩:=E.bG At0;refine aO (oU (l:=l) 40 e) rfl rfl (λC wf f=>?_);obtain⟨rfl,d,g,o,p⟩:=f;have O:=S _ g _ d o p;refine V1 ?_;exact⟨40,by rw[ay];rfl,by rw[ay];simp,by rw[ay];exact O.bf⟩
end
def ak0:ownKnob prog.godebug=none:=by kernel_rfl
def ajn:laidOutB prog=true:=by kernel_rfl
def aav:List (String×DataW Unit):=[("math/bits.deBruijn32tab",Rows.laid_math_bits_deBruijn32tab),("math/bits.deBruijn64tab",Rows.laid_math_bits_deBruijn64tab),("internal/strconv.uint64pow10",Rows.laid_internal_strconv_uint64pow10),("unicode/utf8.acceptRanges",Rows.laid_unicode_utf8_acceptRanges),("strconv.ErrRange",Rows.laid_strconv_ErrRange),("strconv.ErrSyntax",Rows.laid_strconv_ErrSyntax),("unicode/utf8.first",Rows.laid_unicode_utf8_first)]
def ahr:U8Extra prog Tryz.lays260_ren:=⟨kR,kR,kR,kR,kR,kR,kR⟩
def aeD:Rows.laid_unicode_utf8_first=firstData:=Pinned.utf8First_eq
def abN:(Rows.laid_unicode_utf8_acceptRanges:DataW Unit)=acceptData:=by kernel_rfl
def pow_eq:(Rows.laid_internal_strconv_uint64pow10:DataW Unit)=tabData .u64 pow10Tab:=by kernel_rfl
def aaw: "*" ++ "errors.errorString" = "*errors.errorString" :=dC
def aeE (u:Td) (h:prog.typeName? 3 u=some "*errors.errorString"):u=358:=
 typeName_ptr_named (nm:= "errors.errorString") (by rw[aaw];kernel_rfl) kR dC u (by rw[aaw];exact h)
def U7:prog.cellsOf 360=1:=by kernel_rfl
def U8:prog.cellsOf 9=1:=by kernel_rfl
def aeF {W:Wd} (o:laidMetH prog aav W) (i:W.ShapedOpen prog):gK W:=by
 rw[MakeChecks.laidMetH_plain _ _ _ kR]at o;have h:=o;refine⟨?_,?_,?_,?_,?_⟩
 .exact utf8Tabs_of_reads Tryz.lays260 ahr (aeD▸Lib.laidMet.reads h (by unfold aav;simp)) (abN▸Lib.laidMet.reads h (by unfold aav;simp))
 .obtain⟨g,t,cs,fuel,p,r,j,d,q⟩:=Lib.laidMet.reads (n:= "internal/strconv.uint64pow10") h (by unfold aav;exact .tail _ (.tail _ (.head _)))
  have f:prog.globalNamed "internal/strconv.uint64pow10" =some 3:=kR;obtain rfl:=Option.some.inj (f.symm.trans r);have S:(prog.globals[3]?).map (·.type)=some 362:=kR;obtain rfl:=Option.some.inj (S.symm.trans j);rw[pow_eq]at q;have e:=cells_of_tab underlying362 underlying187 kR kR q;unfold Lib.TabIs;rw[d,<-e]
 .obtain⟨a,s,m,_⟩:=laid_sentinel (g:=1) (ti:=97) (tp:=358) (te:=360) (ts:=9) h.tail.tail.tail.tail.tail kR kR underlying97 aeE underlying358 underlying360 rfl rfl underlying9 U7 U8
  exact⟨_,_,m⟩
 .obtain⟨a,s,m,_⟩:=laid_sentinel (g:=2) (ti:=97) (tp:=358) (te:=360) (ts:=9) h.tail.tail.tail.tail kR kR underlying97 aeE underlying358 underlying360 rfl rfl underlying9 U7 U8
  exact⟨_,_,m⟩
 exact Tryz.laysM219.s1_3 W i
end
end Go.Proofs.Mw
