/-
 Runes in bytes:the document's way and the library's way,told plainly. No program stands here.
-/
import Derived.Test.YtkfpleidaoaonaaGreatDoorNu1
import Derived.Lib.MapLaws
import Derived.Lib.ValidLaws
import Derived.Lib.ItoaNum
import Derived.Lib.ParseIntBTie
import Derived.Lib.Bytealg
import Derived.Test.YtkfpleidaoaonaaGreatDoorNu4
import Derived.Test.YtkfpleidaoaonaaGreatDoorNu3
import Derived.Laws.BitsLemmas
import Derived.Lib.AppendStr
set_option linter.unusedVariables false
set_option linter.unusedSimpArgs false
namespace Go.Proofs.YtkfpleidaoaonaaGreatDoor
open Go Go.Lib
def l6 (l:L8):Option (Nat×Nat):=if l=[]\/((decodeL l).1=65533/\(decodeL l).2=1)then none else some (decodeL l)
def ahF (r:Int):Option (L8):=if r<0\/1114111<r\/(55296<=r/\r<=57343)then none else some (encodeRune r)
def O7:L8->Nat
 | [a]=>a.toNat
 | [a,b]=>64*(a.toNat%32)+b.toNat%64
 | [a,b,c]=>64*(64*(a.toNat%16)+b.toNat%64)+c.toNat%64
 | [a,b,c,d]=>64*(64*(64*(a.toNat%8)+b.toNat%64)+c.toNat%64)+d.toNat%64
 | _=>0
def okL (l:L8) (k:Nat):Prop:=ahF (O7 (l.take k):Nat)=some (l.take k)
instance (l:L8) (k:Nat):Decidable (okL l k):=by unfold okL;infer_instance

theorem acL {n:Nat} {a:UInt8}:n.toUInt8=a↔n%256=a.toNat:=by
 rw[<-UInt8.toNat_inj];simp
section
variable {a b c d:UInt8} {t:L8}
theorem ok1:okL (a::t) 1↔a.toNat<128:=by
 have ha:=a.toNat_lt;unfold okL;simp only[zde,zdo,O7];unfold ahF;rw[zab oM];constructor
 .intro h
  refine Classical.byContradiction λhn=>?_;rw[encodeRune,encodeRuneZ_two oM oM]at h;simp at h
 intro h;rw[encodeRune,encodeRuneZ_one oM oM];simp
theorem ok2:okL (a::b::t) 2↔a.toNat/32=6/\b.toNat/64=2/\128<=a.toNat%32*64+b.toNat%64:=by
 have ha:=a.toNat_lt;have hb:=b.toNat_lt;unfold okL;simp only[zde,zdo,O7];unfold ahF;rw[zab oM]
 by_cases h0:64*(a.toNat%32)+b.toNat%64<128
 .rw[encodeRune,encodeRuneZ_one oM oM]
  simp;omega
 rw[encodeRune,encodeRuneZ_two oM oM];simp only[zax,zcr,Option.some.injEq,List.cons.injEq,and_true,acL];omega
theorem ok3:okL (a::b::c::t) 3↔a.toNat/16=14/\b.toNat/64=2/\c.toNat/64=2/\2048<=a.toNat%16*4096+b.toNat%64*64+c.toNat%64/\
    (a.toNat%16*4096+b.toNat%64*64+c.toNat%64<55296\/57344<=a.toNat%16*4096+b.toNat%64*64+c.toNat%64):=by
  have ha:=a.toNat_lt;have hb:=b.toNat_lt;have hc:=c.toNat_lt;unfold okL;simp only[zde,zdo,O7];unfold ahF
  by_cases hs:55296<=64*(64*(a.toNat%16)+b.toNat%64)+c.toNat%64/\64*(64*(a.toNat%16)+b.toNat%64)+c.toNat%64<=57343
  . rw[zac oM]
    simp;omega
  rw[zab oM]
  by_cases h0:64*(64*(a.toNat%16)+b.toNat%64)+c.toNat%64<128
  . rw[encodeRune,encodeRuneZ_one oM oM]
    simp;omega
  by_cases h1:64*(64*(a.toNat%16)+b.toNat%64)+c.toNat%64<2048
  . rw[encodeRune,encodeRuneZ_two oM oM]
    simp;omega
  rw[encodeRune,encodeRuneZ_three oM];simp only[zax,zcr,Option.some.injEq,List.cons.injEq,and_true,acL];omega
theorem ok4:okL (a::b::c::d::t) 4↔a.toNat/8=30/\b.toNat/64=2/\c.toNat/64=2/\d.toNat/64=2/\65536<=a.toNat%8*262144+b.toNat%64*4096+c.toNat%64*64+d.toNat%64/\
    a.toNat%8*262144+b.toNat%64*4096+c.toNat%64*64+d.toNat%64<=1114111:=by
  have ha:=a.toNat_lt;have hb:=b.toNat_lt;have hc:=c.toNat_lt;have hd:=d.toNat_lt;unfold okL;simp only[zde,zdo,O7];unfold ahF;obtain⟨n,hn⟩: ∃n,n=64*(64*(64*(a.toNat%8)+b.toNat%64)+c.toNat%64)+d.toNat%64:=⟨_,rfl⟩;rw[<-hn]
  by_cases hs:1114111<n\/(55296<=n/\n<=57343)
  . rw[zac oM]
    simp;omega
  rw[zab oM]
  by_cases h0:n<128
  . rw[encodeRune,encodeRuneZ_one oM oM]
    simp;omega
  by_cases h1:n<2048
  . rw[encodeRune,encodeRuneZ_two oM oM]
    simp;omega
  by_cases h2:n<65536
  . rw[encodeRune,encodeRuneZ_three oM]
    simp;omega
  rw[encodeRune,encodeRuneZ_four oM oM];simp only[zax,zcr,Option.some.injEq,List.cons.injEq,and_true,acL];omega
end
theorem tX (a:UInt8) (t:L8):decodeL (a::t)=decodeN (t.length+1) a.toNat (t.getD 0 0).toNat (t.getD 1 0).toNat (t.getD 2 0).toNat:=by
 rw[decodeL_N];rfl
theorem GK {l:L8} {k:Nat} (h1:1<=k) (h4:k<=4) (hk:k<=l.length) (h:okL l k):l6 l=some (O7 (l.take k),k):=by
 have hk':k=1\/k=2\/k=3\/k=4:=oM;unfold l6
 rcases hk' with rfl | rfl | rfl | rfl
 .obtain⟨a,t,rfl⟩: ∃a t,l=a::t:=by cases l with | nil=>simp at hk | cons a t=>exact⟨a,t,rfl⟩
  have h:=ok1.1 h;have hd:decodeL (a::t)=(a.toNat,1):=by rw[tX,decodeN,zac h]
  rw[hd,zab (by simp;omega)];rfl
 .obtain⟨a,b,t,rfl⟩: ∃a b t,l=a::b::t:=by match l,hk with | a::b::t,_=>exact⟨a,b,t,rfl⟩
  obtain⟨h2,h3,h5⟩:=ok2.1 h
  have hd:decodeL (a::b::t)=(a.toNat%32*64+b.toNat%64,2):=by
   rw[tX,decodeN,zab oM,zac ⟨h2,sM,by simpa using h3⟩];simp only[zex];rw[zac h5]
  rw[hd,zab sM];simp only[zde,zdo,O7]
  congr 2;omega
 .obtain⟨a,b,c,t,rfl⟩: ∃a b c t,l=a::b::c::t:=by match l,hk with | a::b::c::t,_=>exact⟨a,b,c,t,rfl⟩
  obtain⟨h2,h3,h5,h6,h7⟩:=ok3.1 h
  have hd:decodeL (a::b::c::t)=(a.toNat%16*4096+b.toNat%64*64+c.toNat%64,3):=by
   rw[tX,decodeN,zab oM,zab oM,zac ⟨h2,⟨sM,by simpa using h3⟩,sM,by simpa using h5⟩];simp only[zex,zga];rw[zac ⟨h6,oM⟩]
  rw[hd,zab sM];simp only[zde,zdo,O7]
  congr 2;omega
 obtain⟨a,b,c,d,t,rfl⟩: ∃a b c d t,l=a::b::c::d::t:=by match l,hk with | a::b::c::d::t,_=>exact⟨a,b,c,d,t,rfl⟩
 obtain⟨h2,h3,h5,h6,h7,h8⟩:=ok4.1 h
 have hd:decodeL (a::b::c::d::t)=(a.toNat%8*262144+b.toNat%64*4096+c.toNat%64*64+d.toNat%64,4):=by
  rw[tX,decodeN,zab oM,zab oM,zab oM,zac ⟨h2,⟨sM,by simpa using h3⟩,⟨sM,by simpa using h5⟩,sM,by simpa using h6⟩];simp only[zex,zga];rw[zac ⟨h7,oM⟩]
 rw[hd,zab sM];simp only[zde,zdo,O7]
 congr 2;omega
theorem aeL {l:L8} (h: ∀k,1<=k->k<=4->k<=l.length->¬okL l k):l6 l=none:=by
  unfold l6
  match l,h with
  | [],_=>rw[zac (.inl rfl)]
  | a::t,h=>
    rw[tX]
    rcases decodeN_shape (t.length+1) a.toNat (t.getD 0 0).toNat (t.getD 1 0).toNat (t.getD 2 0).toNat with⟨c,e⟩ | ⟨c1,c2,c3,cv,e⟩ | ⟨c1,c2,c3,c4,cv,cs,e⟩ | ⟨c1,c2,c3,c4,c5,cv,cw,e⟩ | e
    . exact zat (ok1.2 c) (h 1 oM oM sM)
    . obtain⟨b,u,rfl⟩: ∃b u,t=b::u:=by cases t with | nil=>simp at c2 | cons b u=>exact⟨b,u,rfl⟩
      exact zat (ok2.2 ⟨c1,c3,cv⟩) (h 2 oM oM sM)
    . obtain⟨b,c,u,rfl⟩: ∃b c u,t=b::c::u:=by
        cases t with
        | nil=>simp at c2
        | cons b u=>cases u with
          | nil=>simp at c2
          | cons c u=>exact⟨b,c,u,rfl⟩
      exact zat (ok3.2 ⟨c1,c3,c4,cv,cs⟩) (h 3 oM oM sM)
    . obtain⟨b,c,d,u,rfl⟩: ∃b c d u,t=b::c::d::u:=by
        cases t with
        | nil=>simp at c2
        | cons b u=>cases u with
          | nil=>simp at c2
          | cons c u=>cases u with
            | nil=>simp at c2
            | cons d u=>exact⟨b,c,d,u,rfl⟩
      exact zat (ok4.2 ⟨c1,c3,c4,c5,cv,cw⟩) (h 4 oM oM sM)
    rw[e,zac (.inr ⟨rfl,rfl⟩)]
theorem xV {l:L8} {r n:Nat} (h:l6 l=some (r,n)):decodeL l=(r,n)/\1<=n/\n<=l.length/\encodeRune (r:Int)=l.take n:=by
 unfold l6 at h
 split at h
 .cases h
 rename_i hn;injection h with h
 have iF:l≠[]:=λe=>hn (.inl e);have hv: ¬((decodeL l).1=65533/\(decodeL l).2=1):=λe=>hn (.inr e);have h1:=encode_decode l iF hv;have h2:=decodeL_le l iF;have h3:=decodeL_width l;rw[h]at h1 h2 h3;exact⟨h,h3,h2,h1⟩
theorem O8 {l:L8} (iF:l≠[]):validD l=match l6 l with | none=>false | some (_,n)=>validD (l.drop n):=by
 rw[validD_step l iF];unfold l6
 by_cases h:(decodeL l).1=65533/\(decodeL l).2=1
 .rw[zac h,zac (.inr h)]
 rw[zab h,zab (λe=>e.elim iF h)]
def pK (n:Nat):UInt8:=if n<10 then(48+n).toUInt8 else(87+n).toUInt8
def mo (c:UInt8):L8:=
 if c=34 then [92,34]else if c=92 then [92,92]else if c=8 then [92,98]else if c=12 then [92,102]else if c=10 then [92,110]else if c=13 then [92,114]else if c=9 then [92,116]
 else if c<32 then [92,117,48,48,pK (c.toNat/16),pK (c.toNat%16)]else [c]
def yM (s:L8):L8:=34::(s.flatMap mo++[34])
def pY (c:UInt8):Option Nat:=if 48<=c.toNat/\c.toNat<=57 then some (c.toNat-48)else if 97<=c.toNat/\c.toNat<=102 then some (c.toNat-87)else if 65<=c.toNat/\c.toNat<=70 then some (c.toNat-55)else none
def vE (s:L8) (second:Bool):Nat×Int:=
 match s[0]? with
 | none=>(0,3)
 | some c0=>match pY c0 with
  | none=>(0,41)
  | some d0=>if second=true/\d0≠13 then(0,41)else match s[1]? with
   | none=>(0,3)
   | some c1=>match pY c1 with
    | none=>(0,41)
    | some d1=>if second≠decide (220<=16*d0+d1/\16*d0+d1<=223)then(0,41)else match s[2]? with
     | none=>(0,3)
     | some c2=>match pY c2 with
      | none=>(0,41)
      | some d2=>match s[3]? with
       | none=>(0,3)
       | some c3=>match pY c3 with
        | none=>(0,41)
        | some d3=>(16*(16*(16*d0+d1)+d2)+d3,0)
def O9 (c:UInt8):Option UInt8:=
 if c=34 then some 34 else if c=92 then some 92 else if c=47 then some 47 else if c=98 then some 8 else if c=102 then some 12 else if c=110 then some 10 else if c=114 then some 13 else if c=116 then some 9 else none
def aa9 (s:L8) (n:Nat):L8×Nat×Int:=
 match s[6]? with
 | none=>([],0,3)
 | some c6=>if c6≠92 then([],0,41)else match s[7]? with
  | none=>([],0,3)
  | some c7=>if c7≠117 then([],0,41)else
   let k:=vE (s.drop 8) true
   if k.2≠0 then([],0,k.2)else(encodeRune (65536+1024*((n:Int)-55296)+k.1-56320),12,0)
def zS (s:L8):L8×Nat×Int:=
 match s[1]? with
 | none=>([],0,3)
 | some c=>match O9 c with
  | some b=>([b],2,0)
  | none=>if c≠117 then([],0,41)else
   let h:=vE (s.drop 2) false
   if h.2≠0 then([],0,h.2)
   else if h.1<55296\/56319<h.1 then(encodeRune h.1,6,0)
   else aa9 s h.1
def acM:L8->Bool
  | [a]=>decide (194<=a.toNat/\a.toNat<=244)
  | [a,b]=>decide ((a.toNat=224/\160<=b.toNat/\b.toNat<=191)\/((225<=a.toNat/\a.toNat<=236\/238<=a.toNat/\a.toNat<=239)/\128<=b.toNat/\b.toNat<=191)\/(a.toNat=237/\128<=b.toNat/\b.toNat<=159)\/
      (a.toNat=240/\144<=b.toNat/\b.toNat<=191)\/(241<=a.toNat/\a.toNat<=243/\128<=b.toNat/\b.toNat<=191)\/(a.toNat=244/\128<=b.toNat/\b.toNat<=143))
  | [a,b,c]=>decide (((a.toNat=240/\144<=b.toNat/\b.toNat<=191)\/(241<=a.toNat/\a.toNat<=243/\128<=b.toNat/\b.toNat<=191)\/(a.toNat=244/\128<=b.toNat/\b.toNat<=143))/\128<=c.toNat/\c.toNat<=191)
  | _=>false
def vF:Nat->L8->Nat->L8->L8×Nat×Int
 | 0,_,_,_=>([],0,3)
 | f+1,rest,i,out=>match rest with
  | []=>([],0,3)
  | c::t=>if c=34 then(out,i+1,0)else if c<32 then([],0,41)
   else if c=92 then(let e:=zS (c::t);if e.2.2≠0 then([],0,e.2.2)else vF f ((c::t).drop e.2.1) (i+e.2.1) (out++e.1))
   else match l6 (c::t)with
    | some (_,n)=>vF f ((c::t).drop n) (i+n) (out++(c::t).take n)
    | none=>([],0,if acM (c::t)then 3 else 40)
def VN (s:L8):L8×Nat×Int:=
 match s with
 | []=>([],0,3)
 | c::t=>if c≠34 then([],0,41)else vF (t.length+1) t 1 []
theorem Pb (s:L8):(∃e:Int,e≠0/\zS s=([],0,e))\/∃b n,1<=n/\zS s=(b,n,0):=by
 obtain⟨x,hx⟩: ∃x,x=zS s:=⟨_,rfl⟩;rw[<-hx];unfold zS aa9 at hx;dsimp only at hx
 repeat' split at hx
 all_goals first
  | exact .inl ⟨_,dC,hx⟩
  | exact .inr ⟨_,_,dC,hx⟩
  | exact .inl ⟨_,by assumption,hx⟩
theorem aeM: ∀{f g:Nat} {rest:L8} {i:Nat} {out:L8},rest.length<f->rest.length<g->vF f rest i out=vF g rest i out:=by
 intro f
 induction f with
 | zero=>intro g rest i out h;exact zat h (zen _)
 | succ f ih=>
  intro g rest i out hf hg;cases g with
  | zero=>exact zat hg (zen _)
  | succ g=>
   cases rest with
   | nil=>rfl
   | cons c t=>
    unfold vF
    have alG: ∀k,1<=k->((c::t).drop k).length<f/\((c::t).drop k).length<g:=λk hk=>by
     rw[zbu];simp only[zal]at hf hg ⊢;omega
    dsimp only
    split
    .rfl
    split
    .rfl
    split
    .split
     .rfl
     rename_i he
     have h1:1<=(zS (c::t)).2.1:=by
      rcases Pb (c::t)with⟨e,h0,hx⟩ | ⟨b,n,hn,hx⟩
      .rw[hx]at he;exact zat h0 he
      rw[hx];exact hn
     obtain⟨a,b⟩:=alG _ h1;exact ih a b
    cases hn:l6 (c::t)with
    | none=>rfl
    | some x=>
     obtain⟨r,n⟩:=x;obtain⟨_,h1,_,_⟩:=xV hn;obtain⟨a,b⟩:=alG _ h1;exact ih a b
structure dJ where
 kind:Int
 null:Bool
structure aI where
 null:Bool
 n:Int
 s:L8
structure bL where
 id:Int
 name:L8
 type:dJ
 dflt:aI
structure bJ where
 kind:Int
 n:Int
 s:L8
theorem dJ.ext' {a b:dJ} (h1:a.kind=b.kind) (h2:a.null=b.null):a=b:=by cases a;cases b;simp_all
theorem aI.ext' {a b:aI} (h1:a.null=b.null) (h2:a.n=b.n) (h3:a.s=b.s):a=b:=by cases a;cases b;simp_all
theorem bJ.ext' {a b:bJ} (h1:a.kind=b.kind) (h2:a.n=b.n) (h3:a.s=b.s):a=b:=by cases a;cases b;simp_all
theorem bL.ext' {a b:bL} (h1:a.id=b.id) (h2:a.name=b.name) (h3:a.type=b.type) (h4:a.dflt=b.dflt):a=b:=by cases a;cases b;simp_all
instance:DecidableEq dJ:=λa b=>decidable_of_iff (a.kind=b.kind/\a.null=b.null) ⟨λh=>dJ.ext' h.1 h.2,λh=>by subst h;exact⟨rfl,rfl⟩⟩
instance:DecidableEq aI:=λa b=>decidable_of_iff (a.null=b.null/\a.n=b.n/\a.s=b.s) ⟨λh=>aI.ext' h.1 h.2.1 h.2.2,λh=>by subst h;exact⟨rfl,rfl,rfl⟩⟩
instance:DecidableEq bJ:=λa b=>decidable_of_iff (a.kind=b.kind/\a.n=b.n/\a.s=b.s) ⟨λh=>bJ.ext' h.1 h.2.1 h.2.2,λh=>by subst h;exact⟨rfl,rfl,rfl⟩⟩
instance:DecidableEq bL:=λa b=>decidable_of_iff (a.id=b.id/\a.name=b.name/\a.type=b.type/\a.dflt=b.dflt) ⟨λh=>bL.ext' h.1 h.2.1 h.2.2.1 h.2.2.2,λh=>by subst h;exact⟨rfl,rfl,rfl,rfl⟩⟩
def cell0:aI:=⟨false,0,[]⟩
def dW:aI:=⟨true,0,[]⟩
def ng:dJ:=⟨0,false⟩
def qK (t:dJ):Bool:=decide (1<=t.kind/\t.kind<=5)
def isC (kind:Int) (c:aI):Bool:=
 if kind=1 then decide (c.s=[]/\0<=c.n/\c.n<=1)
 else if kind=2 then decide (c.s=[]/\ -2147483648<=c.n/\c.n<=2147483647)
 else if kind=3 then decide (c.s=[])
 else if kind=4 then decide (c.n=0/\c.s.length<=1024/\validD c.s=true)
 else decide (c.n=0/\c.s.length<=1024)
def gN (t:dJ) (c:aI):Int:=
 if qK t=false then 2 else if c.null=true then(if t.null=true/\c=dW then 0 else 90)else if isC t.kind c=true then 0 else 90
def jM (x:bJ):Bool:=
 if x.kind=1 then decide (x.s=[]/\1<=x.n/\x.n<=1048576)
 else if x.kind=2 then decide (x.s=[])
 else if x.kind=3 then decide (x.s=[]/\0<=x.n/\x.n<=1)
 else if x.kind=4 then decide (x.n=0/\x.s.length<=1024/\validD x.s=true)
 else if x.kind=5 then decide (x.n=0/\x.s.length<=1024)
 else if x.kind=6 then decide (x.s=[]/\(x.n=1\/(3<=x.n/\x.n<=5)))
 else decide (7<=x.kind/\x.kind<=18/\x.n=0/\x.s=[])
def eY (kind:Int):Nat:=if kind<7 then 0 else if kind=10\/kind=15\/kind=16\/kind=18 then 1 else 2
def oC (cols:List bL) (id:Int):Option Nat:=cols.findIdx? λc=>decide (c.id=id)
def lW (cols:List bL) (x:bJ):Option dJ:=
 if x.kind=1 then(match oC cols x.n with
  | none=>none
  | some i=>let t:=(cols.getD i ⟨0,[],ng,cell0⟩).type
   if qK t=false then none else some (if t.kind=2 then⟨3,t.null⟩else t))
 else if x.kind=2 then some ⟨3,false⟩
 else if x.kind=3 then some ⟨1,false⟩
 else if x.kind=4 then some ⟨4,false⟩
 else if x.kind=5 then some ⟨5,false⟩
 else some ⟨x.n,true⟩
def FT (kind:Int) (a b:dJ):Option dJ:=
 if kind=7\/kind=8\/kind=9\/kind=10 then(if a.kind=3/\b.kind=3 then some ⟨3,a.null||b.null⟩else none)
 else if kind=11\/kind=12 then(if a.kind=b.kind then some ⟨1,a.null||b.null⟩else none)
 else if kind=13\/kind=14\/kind=15 then(if a.kind=1/\b.kind=1 then some ⟨1,a.null||b.null⟩else none)
 else if kind=16 then some ⟨1,false⟩
 else if kind=17 then(if a.kind=b.kind then some ⟨a.kind,a.null&&b.null⟩else none)
 else(if a.kind=4\/a.kind=5 then some ⟨3,a.null||b.null⟩else none)
def stepT (cols:List bL) (st:List dJ) (x:bJ):Option (List dJ):=
 let k:=eY x.kind
 if jM x=false\/st.length<k then none
 else(if k=0 then lW cols x else FT x.kind (st.getD (st.length-k) ng) (st.getD (st.length-1) ng)).map λt=>st.take (st.length-k)++[t]
def runT (cols:List bL):List dJ->List bJ->Option (List dJ)
 | st,[]=>some st
 | st,x::l=>(stepT cols st x).bind λst=>runT cols st l
def jJ (cols:List bL) (l:List bJ):dJ×Int:=
 if 64<l.length then(ng,5)else match runT cols [] l with
  | some [t]=>(t,0)
  | _=>(ng,220)
def jV (b:Bool):aI:=if b then⟨false,1,[]⟩else cell0
def gU (n:Int):Bool:=decide (-9223372036854775808<=n/\n<=9223372036854775807)
def vT (a b:aI):Int:=
 if a.null=b.null then(if a.n<b.n then -1 else if b.n<a.n then 1 else compareBytes a.s b.s)else if a.null=true then -1 else 1
def yN (kind:Int) (a b:aI):aI:=
 if kind=13/\(a=jV false\/b=jV false)then jV false
 else if kind=14/\(a=jV true\/b=jV true)then jV true
 else if a=dW\/b=dW then dW
 else if kind=15 then jV (decide (a=jV false))
 else jV (decide (kind=13))
def lS (kind:Int) (a b:aI):Option aI:=
 if kind=13\/kind=14\/kind=15 then some (yN kind a b)
 else if kind=16 then some (jV a.null)
 else if kind=17 then some (if a.null then b else a)
 else if a.null=true\/b.null=true then some dW
 else if kind=11 then some (jV (decide (vT a b=0)))
 else if kind=12 then some (jV (decide (vT a b<0)))
 else if kind=18 then some ⟨false,a.s.length,[]⟩
 else let n:=if kind=7 then a.n+b.n else if kind=8 then a.n-b.n else if kind=9 then a.n*b.n else -a.n
  if gU n=true then some ⟨false,n,[]⟩else none
def gD (cols:List bL) (r:List aI):Int:=
 if cols.length≠r.length then 100 else((cols.zip r).map λp=>gN p.1.type p.2).find? (λe=>decide (e≠0)) |>.getD 0
def FU (cols:List bL) (r:List aI) (st:List aI) (x:bJ):Option (List aI):=
  let k:=eY x.kind
  (if k=0 then some (if x.kind=1 then r.getD ((oC cols x.n).getD 0) cell0 else if x.kind=6 then dW else⟨false,x.n,x.s⟩)
   else lS x.kind (st.getD (st.length-k) cell0) (st.getD (st.length-1) cell0)).map λc=>st.take (st.length-k)++[c]
def DT (cols:List bL) (r:List aI):List aI->List bJ->Option (List aI)
 | st,[]=>some st
 | st,x::l=>(FU cols r st x).bind λst=>DT cols r st l
def oL (cols:List bL) (l:List bJ) (r:List aI):aI×Int:=
 if(jJ cols l).2≠0 then(cell0,(jJ cols l).2)else if gD cols r≠0 then(cell0,gD cols r)
 else match DT cols r [] l with
  | none=>(cell0,50)
  | some st=>(st.getD 0 cell0,0)
/-! Words. -/
def qL (k:Int):L8:=if k=1 then [110,117,108,108,58,98,111,111,108]else if k=3 then [110,117,108,108,58,105,110,116,54,52]else if k=4 then [110,117,108,108,58,115,116,114,105,110,103]else if k=5 then [110,117,108,108,58,98,121,116,101,115]else []
def nX:List (L8):=[[43],[45],[42],[110,101,103],[61],[60],[97,110,100],[111,114],[110,111,116],[105,115,110,117,108,108],[101,108,115,101],[108,101,110]]
def AX (s:L8):L8:=s.flatMap λc=>[pK (c.toNat/16),pK (c.toNat%16)]
def TB (s:L8):L8:=(yM s).flatMap λc=>if c=32 then [92,117,48,48,50,48]else [c]
def iY (x:bJ):L8:=
 if x.kind=1 then 35::itoa x.n
 else if x.kind=2 then itoa x.n
 else if x.kind=3 then(if x.n=1 then [116,114,117,101]else [102,97,108,115,101])
 else if x.kind=4 then TB x.s
 else if x.kind=5 then 120::AX x.s
 else if x.kind=6 then qL x.n
 else nX.getD (x.kind-7).toNat []
def lg (sep:UInt8):List (L8)->L8
 | []=>[]
 | [w]=>w
 | w::l=>w++sep::lg sep l
def jR (l:List bJ):L8×Int:=
 if 64<l.length then([],5)else if(l.all jM)=false then([],2)else(lg 32 (l.map iY),0)
theorem EN {l:L8} {r n:Nat} (h:l6 l=some (r,n)):1<=n/\n<=4/\n<=l.length/\okL l n/\r=O7 (l.take n):=by
 by_cases hk: ∃k,1<=k/\k<=4/\k<=l.length/\okL l k
 .obtain⟨k,h1,h4,hl,gT⟩:=hk
  rw[GK h1 h4 hl gT]at h;injection h with h
  injection h with h2 h3
  subst h3;exact⟨h1,h4,hl,gT,h2.symm⟩
 rw[aeL λk h1 h4 hl gT=>hk ⟨k,h1,h4,hl,gT⟩]at h;cases h
theorem ahG {l:L8} {r n:Nat} (h:l6 l=some (r,n)) (t:L8):l6 (l.take n++t)=some (r,n):=by
 obtain⟨h1,h4,hl,gT,hr⟩:=EN h
 have e:(l.take n++t).take n=l.take n:=by
  rw[zej (by rw[zag];omega),List.take_take,Nat.min_self]
 have hok':okL (l.take n++t) n:=by unfold okL at gT ⊢;rw[e];exact gT
 rw[GK h1 h4 (by rw[zad,zag];omega) hok',e,hr]
theorem abb {c:UInt8} {t:L8} (h:c.toNat<128):l6 (c::t)=some (c.toNat,1):=by
 have:=GK (l:=c::t) (k:=1) oM oM sM (ok1.2 h);simpa[O7]using this
theorem aeN {l:L8} {r n:Nat} (h:l6 l=some (r,n)) (hn:n≠1): ∀c∈l.take n,128<=c.toNat:=by
 obtain⟨h1,h4,hl,gT,_⟩:=EN h;have Zp:n=2\/n=3\/n=4:=oM
 rcases Zp with rfl | rfl | rfl
 .obtain⟨a,b,t,rfl⟩: ∃a b t,l=a::b::t:=by match l,hl with | a::b::t,_=>exact⟨a,b,t,rfl⟩
  obtain⟨h2,h3,_⟩:=ok2.1 gT;intro c hc;simp at hc
  rcases hc with rfl | rfl<;>omega
 .obtain⟨a,b,c,t,rfl⟩: ∃a b c t,l=a::b::c::t:=by match l,hl with | a::b::c::t,_=>exact⟨a,b,c,t,rfl⟩
  obtain⟨h2,h3,h5,_⟩:=ok3.1 gT;intro x hc;simp at hc
  rcases hc with rfl | rfl | rfl<;>omega
 obtain⟨a,b,c,d,t,rfl⟩: ∃a b c d t,l=a::b::c::d::t:=by match l,hl with | a::b::c::d::t,_=>exact⟨a,b,c,d,t,rfl⟩
 obtain⟨h2,h3,h5,h6,_⟩:=ok4.1 gT;intro x hc;simp at hc
 rcases hc with rfl | rfl | rfl | rfl<;>omega
theorem ahH {l:L8} {r:Nat} (h:l6 l=some (r,1)): ∃c t,l=c::t/\c.toNat<128:=by
 obtain⟨h1,h4,hl,gT,_⟩:=EN h;cases l with
 | nil=>simp at hl
 | cons c t=>exact⟨c,t,rfl,ok1.1 gT⟩
theorem aeO {p:L8->Prop} (h0:p []) (h1: ∀c t,c.toNat<128->validD t=true->p t->p (c::t))
    (h2: ∀l r n,l6 l=some (r,n)->n≠1->validD (l.drop n)=true->p (l.drop n)->p l): ∀{l:L8},validD l=true->p l:=by
  intro l
  induction hk:l.length using Nat.strongRecOn generalizing l with
  | _ k ih=>
    intro hv;cases l with
    | nil=>exact h0
    | cons a u=>
      rw[O8 sM]at hv;cases hn:l6 (a::u)with
      | none=>rw[hn]at hv;cases hv
      | some x=>
        obtain⟨r,n⟩:=x;rw[hn]at hv;dsimp only at hv;obtain⟨k1,_,k3,_,_⟩:=EN hn;have afD:=ih ((a::u).drop n).length (by rw[zbu,<-hk];simp only[zal]at k3 ⊢;omega) rfl hv
        by_cases he:n=1
        . subst he
          obtain⟨c,t,e,hc⟩:=ahH hn;injection e with e1 e2
          subst e1;subst e2;exact h1 a u hc hv afD
        exact h2 _ r n hn he hv afD
def jP (c:UInt8):L8:=if c=32 then [92,117,48,48,50,48]else mo c
theorem Mx {c:UInt8} (h:128<=c.toNat):mo c=[c]:=by
 unfold mo;have e: ∀k:UInt8,k.toNat<128->c≠k:=λk hk e=>by subst e;omega
 rw[zab (e _ dC),zab (e _ dC),zab (e _ dC),zab (e _ dC),zab (e _ dC),zab (e _ dC),zab (e _ dC),zab (λh2=>by have:=UInt8.lt_iff_toNat_lt.1 h2;simp at this;omega)]
theorem Yu {c:UInt8} (h:128<=c.toNat):jP c=[c]:=by
 unfold jP;rw[zab (λe=>by subst e;simp at h),Mx h]
theorem EO {n:Nat} (h:n<16):pK n≠32:=by
 have : ∀n:Fin 16,pK n.val≠32:=by decide
 exact this ⟨n,h⟩
theorem Yv (c:UInt8):(mo c).flatMap (λc=>if c=32 then [92,117,48,48,50,48]else [c])=jP c:=by
 unfold jP
 by_cases h:c=32
 .subst h;rfl
 rw[zab h];have h1:pK (c.toNat/16)≠32:=EO (by have:=c.toNat_lt;omega);have h2:pK (c.toNat%16)≠32:=EO oM;unfold mo
 repeat' split
 all_goals simp_all
theorem DU (s:L8):TB s=34::(s.flatMap jP++[34]):=by
 unfold TB yM;rw[zbg,zcd,List.flatMap_assoc];have e:(λc=>(mo c).flatMap (λc=>if c=32 then [92,117,48,48,50,48]else [c]))=jP:=funext Yv;rw[e];rfl
theorem TD {d:Nat} (h:d<16):pY (pK d)=some d:=by
 have : ∀d:Fin 16,pY (pK d.val)=some d.val:=by decide
 exact this ⟨d,h⟩
theorem ahI {a b:Nat} {t:L8} (ha:a<16) (hb:b<16):vE (48::48::pK a::pK b::t) false=(16*a+b,0):=by
 have e:pY 48=some 0:=rfl;unfold vE;simp[e,TD ha,TD hb]
theorem akf {c:UInt8} (h:c.toNat<128):encodeRune (c.toNat:Int)=[c]:=by
 rw[encodeRune,encodeRuneZ_one oM oM];simp
theorem akg {c:UInt8} {t:L8} (h:c.toNat<128):zS (92::117::48::48::pK (c.toNat/16)::pK (c.toNat%16)::t)=([c],6,0):=by
 have hh:=ahI (t:=t) (show c.toNat/16<16 from oM) (show c.toNat%16<16 from oM);have e2:16*(c.toNat/16)+c.toNat%16=c.toNat:=oM;rw[e2]at hh;have e3:O9 117=none:=rfl;unfold zS;simp only[zby,zbp,e3,zeo,zdg,hh];simp only[ne_eq,not_true_eq_false,if_false];rw[zac (.inl oM),akf h]
theorem ahJ {c:UInt8} (h:c.toNat<128) (f i:Nat) (u out:L8):vF (f+1) (jP c++u) i out=vF f u (i+(jP c).length) (out++[c]):=by
 have key: ∀x b:UInt8,O9 x=some b->vF (f+1) (92::x::u) i out=vF f u (i+2) (out++[b]):=by
  intro x b hx
  have e:zS (92::x::u)=([b],2,0):=by
   unfold zS;simp only[zby,zbp,hx]
  rw[vF];simp only[e];simp
 have key2:vF (f+1) (92::117::48::48::pK (c.toNat/16)::pK (c.toNat%16)::u) i out=vF f u (i+6) (out++[c]):=by
  rw[vF];simp only[akg h];simp
 unfold jP
 by_cases h0:c=32
 .subst h0;rw[zac rfl];exact key2
 rw[zab h0];unfold mo
 by_cases h1:c=34
 .subst h1;exact key 34 34 rfl
 rw[zab h1]
 by_cases h2:c=92
 .subst h2;exact key 92 92 rfl
 rw[zab h2]
 by_cases h3:c=8
 .subst h3;exact key 98 8 rfl
 rw[zab h3]
 by_cases h4:c=12
 .subst h4;exact key 102 12 rfl
 rw[zab h4]
 by_cases h5:c=10
 .subst h5;exact key 110 10 rfl
 rw[zab h5]
 by_cases h6:c=13
 .subst h6;exact key 114 13 rfl
 rw[zab h6]
 by_cases h7:c=9
 .subst h7;exact key 116 9 rfl
 rw[zab h7]
 by_cases h8:c<32
 .rw[zac h8];exact key2
 rw[zab h8];show vF (f+1) (c::u) i out=_
 rw[vF];simp only[h1,h8,h2,if_false,abb h];simp
theorem aeP {l:L8} (h: ∀c∈l,128<=c.toNat):l.flatMap jP=l:=by
 induction l with
 | nil=>rfl
 | cons c l ih=>
  rw[zbg,Yu (h c zah),ih λx hx=>h x (zai _ hx)];rfl
theorem ahK {s:L8} (hv:validD s=true): ∀(f i:Nat) (u out:L8),(s.flatMap jP++34::u).length<=f->vF f (s.flatMap jP++34::u) i out=(out++s,i+(s.flatMap jP).length+1,0):=by
 refine aeO (p:=λs=>∀(f i:Nat) (u out:L8),(s.flatMap jP++34::u).length<=f->vF f (s.flatMap jP++34::u) i out=(out++s,i+(s.flatMap jP).length+1,0)) ?_ ?_ ?_ hv
 .intro f i u out hf
  cases f with
  | zero=>simp at hf
  | succ f=>rw[zep,zbr,vF];simp
 .intro c t hc _ ih f i u out hf
  have hq:1<=(jP c).length:=by
   unfold jP mo
   repeat' split
   all_goals simp
  rw[zbg,zbs]at hf ⊢;rw[zad]at hf;cases f with
  | zero=>omega
  | succ f=>
   rw[ahJ hc,ih f _ u _ oM,zbs,zad];simp only[zcc,zbr,Prod.mk.injEq,and_true,zfq];omega
 intro l r n hn h1 _ ih f i u out hf;obtain⟨k1,_,k3,_,_⟩:=EN hn;have hh:=aeN hn h1
 have e:l.flatMap jP=l.take n++(l.drop n).flatMap jP:=by
  conv=>lhs;rw[<-zbx n l]
  rw[zcd,aeP hh]
 rw[e,zbs]at hf ⊢;rw[zad,zag]at hf;cases f with
 | zero=>omega
 | succ f=>
  have ha:=ahG hn ((l.drop n).flatMap jP++34::u)
  obtain⟨c,t,ect⟩: ∃c t,l.take n++((l.drop n).flatMap jP++34::u)=c::t:=by
   cases h0:l.take n++((l.drop n).flatMap jP++34::u)with
   | nil=>simp at h0
   | cons c t=>exact⟨c,t,rfl⟩
  have hc:128<=c.toNat:=by
   refine hh c ?_;cases ht:l.take n with
   | nil=>rw[List.take_eq_nil_iff]at ht;rcases ht with rfl | rfl<;>simp at k1 k3;omega
   | cons a b=>rw[ht]at ect;injection ect with e1 _;rw[e1];exact zah
  have e2: ∀k:UInt8,k.toNat<128->c≠k:=λk hk e=>by subst e;omega
  have hd:(c::t).drop n=(l.drop n).flatMap jP++34::u:=by rw[<-ect,zfe (by rw[zag];omega),List.drop_take,zev,zdo,zbr]
  have ht:(c::t).take n=l.take n:=by rw[<-ect,zej (by rw[zag];omega),List.take_take,Nat.min_self]
  rw[ect]at ha ⊢;rw[vF];dsimp only;rw[zab (e2 _ dC),zab (λh2=>by have:=UInt8.lt_iff_toNat_lt.1 h2;simp at this;omega),zab (e2 _ dC),ha];dsimp only;rw[hd,ht,ih f _ u _ oM,zbs,zbx,zad,zag];simp only[Prod.mk.injEq,and_true,zfq];omega
theorem ahL {s:L8} (hv:validD s=true):VN (TB s)=(s,(TB s).length,0):=by
 rw[DU];unfold VN;dsimp only;rw[zab sM,ahK hv _ _ [] [] oM];simp;omega
/-! Numbers. -/
def yO (c:UInt8):Bool:=decide (48<=c.toNat/\c.toNat<=57)
def o7:L8->Nat->Option Nat
 | [],acc=>some acc
 | c::r,acc=>if yO c=true then o7 r (10*acc+(c.toNat-48))else none
theorem MB: ∀(l m:L8) (acc:Nat),o7 (l++m) acc=(o7 l acc).bind λa=>o7 m a
 | [],_,_=>rfl
 | c::l,m,acc=>by
  simp only[zcc,o7]
  split
  .exact MB l m _
  rfl
theorem EP {d:Nat} (h:d<10):(UInt8.ofNat (48+d)).toNat=48+d:=by
 simp;omega
theorem zA (u:Nat):o7 (decDigits u) 0=some u:=by
 induction u using Nat.strongRecOn with
 | _ u ih=>
  rw[decDigits]
  split
  .rename_i h
   have e:=EP h;simp only[o7,yO,e];rw[zac (by simp;omega)]
   congr 1;omega
  rename_i h;rw[MB,ih (u/10) oM];have e:=EP (show u%10<10 from oM);simp only[zdr,o7,yO,e];rw[zac (by simp;omega)]
  congr 1;omega
theorem tY (u:Nat):decDigits u≠[]:=by
 rw[decDigits]
 split<;>simp
theorem rQ (u:Nat): ∀c∈decDigits u,yO c=true:=by
 induction u using Nat.strongRecOn with
 | _ u ih=>
  rw[decDigits]
  split
  .rename_i h
   intro c hc;simp only[zay]at hc;subst hc;unfold yO;rw[EP h];simp;omega
  rename_i h;intro c hc
  rcases zbh.1 hc with hc | hc
  .exact ih (u/10) oM c hc
  simp only[zay]at hc;subst hc;unfold yO;rw[EP (show u%10<10 from oM)];simp;omega
theorem zT: ∀(k u:Nat),u<10^(k+1)->(decDigits u).length<=k+1
 | 0,u,h=>by rw[decDigits,dif_pos (by simpa using h)];simp
 | k+1,u,h=>by
  rw[decDigits]
  split
  .simp
  have:=zT k (u/10) (by rw[Nat.pow_succ]at h;omega);rw[zad,zan];omega
theorem Pd: ∀(l:L8) (acc n:Nat),o7 l acc=some n->acc<=n
 | [],acc,n,h=>by simp[o7]at h;omega
 | c::r,acc,n,h=>by
  simp only[o7]at h
  split at h
  .have:=Pd r _ n h;omega
  cases h
theorem Ca: ∀(l:L8) (acc n:Nat),o7 l acc=some n->n<18446744073709551616->parseUint10 acc l=.ok n
 | [],acc,n,h,_=>by simp[o7]at h;simp[parseUint10,h]
 | c::r,acc,n,h,hn=>by
  simp only[o7]at h
  split at h
  .rename_i hc
   have qQ:=Pd r _ n h;have hc':48<=c.toNat/\c.toNat<=57:=by simpa[yO]using hc
   rw[parseUint10,zac hc',zab oM,zab oM];rw[Nat.mul_comm]at h;exact Ca r _ n h hn
  cases h
def o8 (w:L8):Int:=match parseIntB 64 w with
 | .ok v=>v
 | .range=>intSat 64 w
 | _=>0
theorem Pe {u:Nat}: ∃c r,decDigits u=c::r/\yO c=true:=by
 cases h:decDigits u with
 | nil=>exact zat h (tY u)
 | cons c r=>exact⟨c,r,rfl,rQ u c (by rw[h];exact zah)⟩
theorem TF {u:Nat} (h:u<18446744073709551616):parseUintB 64 (decDigits u)=.ok u:=by
 rw[parseUintB_64,parseMag,zab (tY u),Ca _ 0 u (zA u) h]
theorem zB {n:Int} (h0: -9223372036854775808<=n) (h1:n<=9223372036854775807):o8 (itoa n)=n:=by
 by_cases hn:n<0
 .have e:itoa n=45::decDigits n.natAbs:=zac hn
  unfold o8;rw[e,parseIntB_minus,TF oM];simp only[signedC];rw[zab (by simp;omega)];simp only;omega
 have e0:itoa n=decDigits n.toNat:=zab hn;obtain⟨c,r,e,hc⟩:=Pe (u:=n.toNat);have hc':48<=c.toNat/\c.toNat<=57:=by simpa[yO]using hc
 have hp:=TF (u:=n.toNat) oM;unfold o8;rw[e0];rw[e]at hp ⊢;rw[parseIntB_plain _ _ _ oM oM,hp];simp only[signlessC];rw[zab (by simp;omega)];simp only;omega
/-! Bytes. -/
def y5 (c:UInt8):Option Nat:=if 48<=c.toNat/\c.toNat<=57 then some (c.toNat-48)else if 97<=c.toNat/\c.toNat<=102 then some (c.toNat-87)else none
def vU:L8->L8
 | a::b::t=>((y5 a).getD 0*16+(y5 b).getD 0).toUInt8::vU t
 | _=>[]
theorem Yw {d:Nat} (h:d<16):y5 (pK d)=some d:=by
 have : ∀d:Fin 16,y5 (pK d.val)=some d.val:=by decide
 exact this ⟨d,h⟩
theorem aeQ (c:UInt8):(c.toNat/16*16+c.toNat%16).toUInt8=c:=by
 rw[acL];have:=c.toNat_lt;omega
theorem TG: ∀s:L8,vU (AX s)=s
 | []=>rfl
 | c::s=>by
  have:=c.toNat_lt;show vU (pK (c.toNat/16)::pK (c.toNat%16)::AX s)=_
  rw[vU,Yw oM,Yw oM,TG s];simp only[zdk,aeQ]
/-! Words. -/
def acN:L8:=[116,114,117,101]
def VO:L8:=[102,97,108,115,101]
def JU (w:L8):L8:=let s:=vU (w.drop 1);if 120::AX s=w/\s.length<=1024 then s else []
def gJ (w:L8):bJ:=
 match nX.findIdx? (λx=>decide (x=w))with
 | some i=>⟨7+i,0,[]⟩
 | none=>match [1,3,4,5].find? (λk:Int=>decide (qL k=w))with
  | some k=>⟨6,k,[]⟩
  | none=>if w=acN then⟨3,1,[]⟩else if w=VO then⟨3,0,[]⟩
   else if w.head?=some 35 then⟨1,o8 (w.drop 1),[]⟩
   else if w.head?=some 34 then⟨4,0,(VN w).1⟩
   else if w.head?=some 120 then⟨5,0,JU w⟩
   else⟨2,o8 w,[]⟩
theorem abd: ∀x∈nX,∃c r,x=c::r/\c≠35/\c≠34/\c≠120/\¬(48<=c.toNat/\c.toNat<=57)/\(c=45->r=[]):=by
 intro x hx;simp only[nX,zap,zaj,or_false]at hx
 rcases hx with rfl | rfl | rfl | rfl | rfl | rfl | rfl | rfl | rfl | rfl | rfl | rfl<;>exact⟨_,_,rfl,dC,dC,dC,dC,dC⟩
theorem akh {c:UInt8} {r:L8} (h:c=35\/c=34\/c=120\/(48<=c.toNat/\c.toNat<=57)\/(c=45/\r≠[])):nX.findIdx? (λx=>decide (x=c::r))=none:=by
 rw[zed];intro x hx;obtain⟨c',r',rfl,h1,h2,h3,h4,h5⟩:=abd x hx;simp only[List.cons.injEq,decide_eq_false_iff_not,not_and];rintro rfl rfl
 rcases h with h | h | h | h | ⟨h,h6⟩
 .exact h1 h
 .exact h2 h
 .exact h3 h
 .exact h4 h
 exact h6 (h5 h)
theorem aki {c:UInt8} {r:L8} (h:c≠110):[1,3,4,5].find? (λk:Int=>decide (qL k=c::r))=none:=by
 rw[zeq];intro k hk;simp only[zap,zaj,or_false]at hk;simp only[decide_eq_true_eq]
 rcases hk with rfl | rfl | rfl | rfl<;>(intro e;injection e with e _;exact h e.symm)
theorem TH (n:Int): ∃c r,itoa n=c::r/\((48<=c.toNat/\c.toNat<=57)\/(c=45/\r≠[])):=by
 unfold itoa
 split
 .exact⟨_,_,rfl,.inr ⟨rfl,tY _⟩⟩
 obtain⟨c,r,e,hc⟩:=Pe (u:=n.toNat);exact⟨c,r,e,.inl (by simpa[yO]using hc)⟩
theorem Cb {c:UInt8} {r:L8} (h:c=35\/c=34\/c=120\/(48<=c.toNat/\c.toNat<=57)\/(c=45/\r≠[])):
    gJ (c::r)=if c=35 then⟨1,o8 r,[]⟩else if c=34 then⟨4,0,(VN (c::r)).1⟩else if c=120 then⟨5,0,JU (c::r)⟩else⟨2,o8 (c::r),[]⟩:=by
  have hc:c≠110/\c≠116/\c≠102:=by
    rcases h with rfl | rfl | rfl | h | ⟨rfl,_⟩
    . decide
    . decide
    . decide
    . refine⟨?_,?_,?_⟩<;>(rintro rfl;exact zat h dC)
    decide
  unfold gJ;rw[akh h];dsimp only;rw[aki hc.1];dsimp only;rw[zab (by unfold acN;intro e;injection e with e _;exact hc.2.1 e),zab (by unfold VO;intro e;injection e with e _;exact hc.2.2 e)];simp only[List.head?_cons,Option.some.injEq,zeo,zdg]
theorem abe {x:bJ} (h:jM x=true) (h0: -9223372036854775808<=x.n) (h1:x.n<=9223372036854775807):gJ (iY x)=x:=by
 obtain⟨k,n,s⟩:=x;unfold jM at h;unfold iY;dsimp only at h h0 h1 |-
 by_cases k1:k=1
 .subst k1
  rw[zac rfl]at h ⊢;simp only[decide_eq_true_eq]at h;rw[Cb (.inl rfl),zac rfl,zB h0 h1,h.1]
 rw[zab k1]at h |-
 by_cases k2:k=2
 .subst k2
  rw[zac rfl]at h ⊢;simp only[decide_eq_true_eq]at h;obtain⟨c,r,e,hc⟩:=TH n;have hp:=zB h0 h1;rw[e]at hp ⊢;rw[Cb (.inr (.inr (.inr hc))),zab,zab,zab,hp,h]
  all_goals (rcases hc with hc | ⟨rfl,_⟩<;>first | decide | (rintro rfl;exact zat hc dC))
 rw[zab k2]at h |-
 by_cases k3:k=3
 .subst k3
  rw[zac rfl]at h ⊢;simp only[decide_eq_true_eq]at h;obtain⟨rfl,ha,hb⟩:=h;have :n=0\/n=1:=by omega
  rcases this with rfl | rfl<;>rfl
 rw[zab k3]at h |-
 by_cases k4:k=4
 .subst k4
  rw[zac rfl]at h ⊢;simp only[decide_eq_true_eq]at h;have hu:=ahL h.2.2;have e:=DU s;rw[e]at hu ⊢;rw[Cb (.inr (.inl rfl)),zab dC,zac rfl,hu,h.1]
 rw[zab k4]at h |-
 by_cases k5:k=5
 .subst k5
  rw[zac rfl]at h ⊢;simp only[decide_eq_true_eq]at h;rw[Cb (.inr (.inr (.inl rfl))),zab dC,zab dC,zac rfl];unfold JU;simp only[zeo,zdg,TG,zfq];rw[zac h.2,h.1]
 rw[zab k5]at h |-
 by_cases k6:k=6
 .subst k6
  rw[zac rfl]at h ⊢;simp only[decide_eq_true_eq]at h;obtain⟨rfl,hn⟩:=h;have :n=1\/n=3\/n=4\/n=5:=by omega
  rcases this with rfl | rfl | rfl | rfl<;>rfl
 rw[zab k6]at h ⊢;simp only[decide_eq_true_eq]at h;obtain⟨ha,hb,rfl,rfl⟩:=h;have :k=7\/k=8\/k=9\/k=10\/k=11\/k=12\/k=13\/k=14\/k=15\/k=16\/k=17\/k=18:=by omega
 rcases this with rfl | rfl | rfl | rfl | rfl | rfl | rfl | rfl | rfl | rfl | rfl | rfl<;>rfl
/-! Expressions as texts. -/
def d9 (sep:UInt8):L8->List (L8)
 | []=>[[]]
 | c::l=>if c=sep then []::d9 sep l else match d9 sep l with
  | w::ws=>(c::w)::ws
  | []=>[[c]]
def vG (x:bJ) (w:L8):Bool:=jM x&&decide (iY x=w)
def readAll:List (L8)->Option (List bJ)
 | []=>some []
 | w::l=>if vG (gJ w) w=true then(readAll l).map (gJ w:: ·)else none
def fQ (s:L8):List bJ×Int:=
 if 1048576<s.length\/64<=s.count 32 then([],5)else if s=[]then([],0)else match readAll (d9 32 s)with
  | some l=>(l,0)
  | none=>([],4)
theorem MC (w:L8): -9223372036854775808<=o8 w/\o8 w<=9223372036854775807:=by
 unfold o8
 split
 .rename_i v h
  obtain⟨h1,h2⟩:=parseIntB_bounds h;simp at h1 h2;omega
 .unfold intSat
  split<;>simp
 omega
theorem abf {w:L8} (h:jM (gJ w)=true): -9223372036854775808<=(gJ w).n/\(gJ w).n<=9223372036854775807:=by
 unfold gJ at h |-
 split
 .dsimp only;omega
 split
 .rename_i k hk
  have:=zec hk;simp at this;dsimp only;omega
 repeat' split
 all_goals first | exact MC _ | (dsimp only;omega)
theorem La {x:bJ} {w:L8}:vG x w=true↔jM x=true/\iY x=w:=by
 unfold vG;rw[zbv,decide_eq_true_eq]
/-! Words have no blanks. -/
theorem ER (n:Int): ∀c∈itoa n,c≠32:=by
 intro c hc e;subst e
 have key: ∀u,(32:UInt8)∉decDigits u:=λu h=>by
  have:=rQ u _ h;simp[yO]at this
 unfold itoa at hc
 split at hc
 .rcases zap.1 hc with h | h
  .exact zat h dC
  exact key _ h
 exact key _ hc
theorem aeR (c:UInt8): ∀x∈jP c,x≠32:=by
 have h1:pK (c.toNat/16)≠32:=EO (by have:=c.toNat_lt;omega);have h2:pK (c.toNat%16)≠32:=EO oM;unfold jP mo
 repeat' split
 all_goals (intro x hx;simp only[zap,zaj,or_false]at hx)
 all_goals first
  | (rcases hx with rfl | rfl | rfl | rfl | rfl | rfl<;>first | decide | assumption)
  | (rcases hx with rfl | rfl<;>decide)
  | (subst hx;assumption)
theorem abg (c:UInt8):(jP c).length<=6:=by
 unfold jP mo
 repeat' split
 all_goals simp
theorem DV {f:UInt8->L8} {k:Nat} (h: ∀c,(f c).length<=k): ∀s:L8,(s.flatMap f).length<=k*s.length
 | []=>sM
 | c::s=>by
  have h1:=h c;have h2:=DV h s;rw[zbg,zad,zal,Nat.mul_succ];omega
theorem akj {x:bJ} (h:jM x=true): ∀c∈iY x,c≠32:=by
 obtain⟨k,n,s⟩:=x;unfold jM at h;unfold iY;dsimp only at h |-
 by_cases k1:k=1
 .rw[zac k1]
  intro c hc
  rcases zap.1 hc with rfl | hc
  .decide
  exact ER n c hc
 rw[zab k1]at h |-
 by_cases k2:k=2
 .rw[zac k2];exact ER n
 rw[zab k2]at h |-
 by_cases k3:k=3
 .rw[zac k3]
  split<;>decide
 rw[zab k3]at h |-
 by_cases k4:k=4
 .rw[zac k4,DU]
  intro c hc
  rcases zap.1 hc with rfl | hc
  .decide
  rcases zbh.1 hc with hc | hc
  .obtain⟨y,_,hy⟩:=zda.1 hc
   exact aeR y c hy
  simp only[zay]at hc;subst hc;decide
 rw[zab k4]at h |-
 by_cases k5:k=5
 .rw[zac k5]
  intro c hc
  rcases zap.1 hc with rfl | hc
  .decide
  obtain⟨y,_,hy⟩:=zda.1 hc;simp only[zap,zaj,or_false]at hy
  rcases hy with rfl | rfl
  .exact EO (by have:=y.toNat_lt;omega)
  exact EO oM
 rw[zab k5]at h |-
 by_cases k6:k=6
 .subst k6
  rw[zac rfl]at h ⊢;simp only[decide_eq_true_eq]at h;obtain⟨_,hn⟩:=h;have :n=1\/n=3\/n=4\/n=5:=by omega
  rcases this with rfl | rfl | rfl | rfl<;>decide
 rw[zab k6]at h ⊢;simp only[decide_eq_true_eq]at h;obtain⟨ha,hb,_,_⟩:=h;have :k=7\/k=8\/k=9\/k=10\/k=11\/k=12\/k=13\/k=14\/k=15\/k=16\/k=17\/k=18:=by omega
 rcases this with rfl | rfl | rfl | rfl | rfl | rfl | rfl | rfl | rfl | rfl | rfl | rfl<;>decide
theorem DW {n:Int} (h0: -9223372036854775808<=n) (h1:n<=9223372036854775807):(itoa n).length<=20:=by
 unfold itoa
 split
 .have:=zT 18 n.natAbs (by simp;omega)
  simp;omega
 have:=zT 18 n.toNat (by simp;omega);omega
theorem Pg {x:bJ} (h:jM x=true) (h0: -9223372036854775808<=x.n) (h1:x.n<=9223372036854775807):(iY x).length<=6146/\iY x≠[]:=by
 obtain⟨k,n,s⟩:=x;unfold jM at h;unfold iY;dsimp only at h h0 h1 ⊢;have hi:=DW h0 h1;obtain⟨c,r,ei,_⟩:=TH n
 by_cases k1:k=1
 .rw[zac k1];exact⟨by simp;omega,sM⟩
 rw[zab k1]at h |-
 by_cases k2:k=2
 .rw[zac k2];exact⟨oM,by rw[ei];simp⟩
 rw[zab k2]at h |-
 by_cases k3:k=3
 .rw[zac k3]
  split<;>exact⟨dC,dC⟩
 rw[zab k3]at h |-
 by_cases k4:k=4
 .rw[zac k4]at h |-
  simp only[decide_eq_true_eq]at h;rw[DU];have:=DV abg s;exact⟨by simp only[zal,zad,zcq];omega,sM⟩
 rw[zab k4]at h |-
 by_cases k5:k=5
 .rw[zac k5]at h |-
  simp only[decide_eq_true_eq]at h;have :(AX s).length<=2*s.length:=DV (f:=λc:UInt8=>[pK (c.toNat/16),pK (c.toNat%16)]) (λc=>by simp) s;exact⟨by simp only[zal];omega,sM⟩
 rw[zab k5]at h |-
 by_cases k6:k=6
 .subst k6
  rw[zac rfl]at h ⊢;simp only[decide_eq_true_eq]at h;obtain⟨_,hn⟩:=h;have :n=1\/n=3\/n=4\/n=5:=by omega
  rcases this with rfl | rfl | rfl | rfl<;>exact⟨dC,dC⟩
 rw[zab k6]at h ⊢;simp only[decide_eq_true_eq]at h;obtain⟨ha,hb,_,_⟩:=h;have :k=7\/k=8\/k=9\/k=10\/k=11\/k=12\/k=13\/k=14\/k=15\/k=16\/k=17\/k=18:=by omega
 rcases this with rfl | rfl | rfl | rfl | rfl | rfl | rfl | rfl | rfl | rfl | rfl | rfl<;>exact⟨dC,dC⟩
/-! Split and join. -/
theorem Yx (sep:UInt8): ∀l:L8,d9 sep l≠[]
 | []=>by simp[d9]
 | c::l=>by
  unfold d9
  split
  .simp
  split<;>simp
theorem sJ {sep c:UInt8} {l:L8} (h:c≠sep): ∃w ws,d9 sep l=w::ws/\d9 sep (c::l)=(c::w)::ws:=by
 cases e:d9 sep l with
 | nil=>exact zat e (Yx sep l)
 | cons w ws=>exact⟨w,ws,rfl,by rw[d9,zab h,e]⟩
theorem GL {sep:UInt8} {w:L8} (h: ∀c∈w,c≠sep):d9 sep w=[w]:=by
 induction w with
 | nil=>rfl
 | cons c w ih=>
  obtain⟨a,b,e1,e2⟩:=sJ (l:=w) (h c zah);rw[ih λx hx=>h x (zai _ hx)]at e1;injection e1 with e1 e3
  rw[e2,<-e1,<-e3]
theorem Lb {sep:UInt8} {w l:L8} (h: ∀c∈w,c≠sep):d9 sep (w++sep::l)=w::d9 sep l:=by
 induction w with
 | nil=>rw[zbr,d9,zac rfl]
 | cons c w ih=>
  obtain⟨a,b,e1,e2⟩:=sJ (l:=w++sep::l) (h c zah);rw[ih λx hx=>h x (zai _ hx)]at e1;injection e1 with e1 e3
  rw[zcc,e2,<-e1,<-e3]
theorem GN {sep:UInt8}: ∀{ws:List (L8)},ws≠[]->(∀w∈ws,∀c∈w,c≠sep)->d9 sep (lg sep ws)=ws
 | [],h,_=>zat rfl h
 | [w],_,h=>GL (h w zah)
 | w::w'::ws,_,h=>by
  show d9 sep (w++sep::lg sep (w'::ws))=_
  rw[Lb (h w zah),GN sM λx hx=>h x (zai _ hx)]
theorem GQ (sep:UInt8): ∀l:L8,lg sep (d9 sep l)=l
 | []=>rfl
 | c::l=>by
  have ih:=GQ sep l
  by_cases h:c=sep
  .rw[d9,zac h]
   obtain⟨w,ws,e⟩: ∃w ws,d9 sep l=w::ws:=by
    cases e:d9 sep l with
    | nil=>exact zat e (Yx sep l)
    | cons w ws=>exact⟨w,ws,rfl⟩
   rw[e]at ih ⊢;show []++sep::lg sep (w::ws)=_
   rw[ih,h];rfl
  obtain⟨w,ws,e1,e2⟩:=sJ (l:=l) h;rw[e2];rw[e1]at ih;cases ws with
  | nil=>show c::w=_;rw[<-ih];rfl
  | cons w' ws=>show(c::w)++sep::lg sep (w'::ws)=_;rw[<-ih];rfl
theorem zC (sep:UInt8): ∀l:L8,(d9 sep l).length=l.count sep+1
 | []=>rfl
 | c::l=>by
  have ih:=zC sep l
  by_cases h:c=sep
  .rw[d9,zac h,zal,ih,h,List.count_cons_self]
  obtain⟨w,ws,e1,e2⟩:=sJ (l:=l) h;rw[e1]at ih;rw[e2,List.count_cons_of_ne h];simpa using ih
theorem DX (sep:UInt8) {k:Nat}: ∀{ws:List (L8)},(∀w∈ws,w.length<=k)->(lg sep ws).length<=(k+1)*ws.length
 | [],_=>by simp[lg]
 | [w],h=>by have:=h w zah;simp[lg];omega
 | w::w'::ws,h=>by
  have h1:=h w zah;have h2:=DX sep (ws:=w'::ws) λx hx=>h x (zai _ hx);show(w++sep::lg sep (w'::ws)).length<=_
  simp only[zad,zal]at h2 ⊢;rw[Nat.mul_succ];omega
theorem FV: ∀{l:List bJ},(∀x∈l,jM x=true/\ -9223372036854775808<=x.n/\x.n<=9223372036854775807)->readAll (l.map iY)=some l
 | [],_=>rfl
 | x::l,h=>by
  obtain⟨h1,h2,h3⟩:=h x zah;have e:=abe h1 h2 h3;rw[zax,readAll,e,zac (La.2 ⟨h1,rfl⟩),FV λy hy=>h y (zai _ hy)];rfl
theorem JV: ∀{ws:List (L8)} {l:List bJ},readAll ws=some l->l.map iY=ws/\∀x∈l,jM x=true/\ -9223372036854775808<=x.n/\x.n<=9223372036854775807
 | [],l,h=>by simp[readAll]at h;subst h;exact⟨rfl,λ_ h=>by cases h⟩
 | w::ws,l,h=>by
  rw[readAll]at h
  split at h
  .rename_i hg
   obtain⟨m,hm,rfl⟩:=zbb.1 h;obtain⟨h1,h2⟩:=La.1 hg;obtain⟨h3,h4⟩:=JV hm;refine⟨by rw[zax,h2,h3],λx hx=>?_⟩
   rcases zap.1 hx with rfl | hx
   .exact⟨h1,abf h1⟩
   exact h4 x hx
  cases h
theorem Ph {l:List bJ} (h: ∀x∈l,jM x=true/\ -9223372036854775808<=x.n/\x.n<=9223372036854775807) (hl:l.length<=64):jR l=(lg 32 (l.map iY),0)/\fQ (lg 32 (l.map iY))=(l,0)/\(l≠[]->(lg 32 (l.map iY)).count 32=l.length-1):=by
 refine⟨?_,?_⟩
 .unfold jR
  rw[zab oM,zab];rw[Bool.not_eq_false,zaz];exact λx hx=>(h x hx).1
 by_cases h0:l=[]
 .subst h0;exact⟨rfl,λh=>zat rfl h⟩
 have iF:l.map iY≠[]:=by simpa using h0
 have hnb: ∀w∈l.map iY,∀c∈w,c≠32:=λw hw=>by
  obtain⟨x,hx,rfl⟩:=zaq.1 hw;exact akj (h x hx).1
 have hs:=GN iF hnb;have hc:=zC 32 (lg 32 (l.map iY));rw[hs,zae]at hc
 have hlen:(lg 32 (l.map iY)).length<=(6146+1)*(l.map iY).length:=DX 32 λw hw=>by
  obtain⟨x,hx,rfl⟩:=zaq.1 hw;exact(Pg (h x hx).1 (h x hx).2.1 (h x hx).2.2).1
 rw[zae]at hlen
 have hnn:lg 32 (l.map iY)≠[]:=by
  intro e;rw[e]at hs;have :l.map iY=[[]]:=hs.symm;cases l with
  | nil=>exact h0 rfl
  | cons x l=>
   simp only[zax,List.cons.injEq]at this;exact(Pg (h x zah).1 (h x zah).2.1 (h x zah).2.2).2 this.1
 refine⟨?_,λ_=>oM⟩;unfold fQ;rw[zab oM,zab hnn,hs,FV h]
theorem abh {s:L8} {l:List bJ} (h:fQ s=(l,0)):jR l=(s,0):=by
 unfold fQ at h
 split at h
 .injection h with _ h;cases h
 rename_i hb
 split at h
 .rename_i h0
  injection h with h _
  subst h;subst h0;rfl
 split at h
 .rename_i m hm
  injection h with h _
  subst h;obtain⟨h1,h2⟩:=JV hm;have hc:=zC 32 s;rw[<-h1,zae]at hc;have:=(Ph h2 oM).1;rw[this,h1,GQ]
 injection h with _ h;cases h
end Go.Proofs.YtkfpleidaoaonaaGreatDoor
namespace Go.Proofs.YtkfpleidaoaonaaGreatDoor
open Go Go.Mw Go.Lib

def I (n:Int):Value:=.int .i64 n
def I32 (n:Int):Value:=.int .i32 n
def B (c:UInt8):Value:=.int .u8 c.toNat
def fits (n:Int):Prop:= -9223372036854775808<=n/\n<=9223372036854775807
theorem akk {α:Type} {f:α->Value} (h: ∀x,(f x).oneCell'=true) (l:List α): ∀u∈l.map f,u.oneCell'=true:=λu hu=>by
 obtain⟨x,_,rfl⟩:=zaq.1 hu;exact h x
theorem aop {n:Int} (h0:0<=n):IntKind.u8.wrap n=((n.toNat.toUInt8).toNat:Int):=by
 rw[IntKind.wrap_u8];simp;omega
theorem wrap32 {n:Int} (h: -2147483648<=n/\n<=2147483647):IntKind.i32.wrap n=n:=by
 rw[IntKind.wrap_i32];omega
theorem wrap64 {n:Int} (h: -9223372036854775808<=n/\n<=9223372036854775807):IntKind.i64.wrap n=n:=IntWalk.i64_in _ h
end Go.Proofs.YtkfpleidaoaonaaGreatDoor
namespace Go.Mw
section gives
variable {P:Program} {ρ:Od->Value} {ty:Td} {w:Wd} {x y:Od} {T U:Td} {k:IntKind}
theorem Gives.Yy {a b:Nat} (hx:ρ x=.int .i64 a) (hy:ρ y=.int .i64 b) (h0:b≠0) (h:a<=9223372036854775807):Gives P ρ (.binOp .quo T x y U) ty w (.int .i64 ((a/b:Nat):Int)) w:=by
 have:=Gives.quo (P:=P) (ty:=ty) (w:=w) (T:=T) (U:=U) hx hy oM;have e:a/b<=a:=Nat.div_le_self a b;have e2:(a:Int).tdiv (b:Int)=((a/b:Nat):Int):=by rw[Int.tdiv_eq_ediv_of_nonneg oM];rfl
 obtain⟨q,hq⟩: ∃q,q=a/b:=⟨_,rfl⟩;rw[<-hq]at e e2 |-
 rwa [e2,IntWalk.i64_in (q:Int) oM]at this
theorem Gives.aoq {s t:Td} {c:UInt8} [hs:lF P s .u8] [ht:lF P t .i64] (hx:ρ x=.int .u8 c.toNat):Gives P ρ (.convert s t x) ty w (.int .i64 c.toNat) w:=by
 have:=Gives.conv (P:=P) (ty:=ty) (w:=w) (s:=s) (t:=t) (k:=.i64) hx;have hc:=c.toNat_lt
 rwa [IntWalk.i64_in _ oM]at this
theorem Gives.akl {s t:Td} {j:IntKind} {a:Int} [hs:lF P s j] [ht:lF P t .i64] (hx:ρ x=.int j a) (h: -9223372036854775808<=a/\a<=9223372036854775807):Gives P ρ (.convert s t x) ty w (.int .i64 a) w:=by
 have:=Gives.conv (P:=P) (ty:=ty) (w:=w) (s:=s) (t:=t) (k:=.i64) hx
 rwa [IntWalk.i64_in _ h]at this
theorem Gives.acO {s t:Td} {j:IntKind} {a:Int} [hs:lF P s j] [ht:lF P t .i32] (hx:ρ x=.int j a) (h: -2147483648<=a/\a<=2147483647):Gives P ρ (.convert s t x) ty w (.int .i32 a) w:=by
 have:=Gives.conv (P:=P) (ty:=ty) (w:=w) (s:=s) (t:=t) (k:=.i32) hx
 rwa [Go.Proofs.YtkfpleidaoaonaaGreatDoor.wrap32 h]at this
theorem Gives.ahM {s t:Td} {j:IntKind} {a:Int} [hs:lF P s j] [ht:lF P t .u8] (hx:ρ x=.int j a) (h:0<=a):Gives P ρ (.convert s t x) ty w (.int .u8 (a.toNat.toUInt8).toNat) w:=by
 have:=Gives.conv (P:=P) (ty:=ty) (w:=w) (s:=s) (t:=t) (k:=.u8) hx
 rwa [Go.Proofs.YtkfpleidaoaonaaGreatDoor.aop h]at this
end gives
end Go.Mw
namespace Go.Mw
open Go.RowKit Go.Proofs.YtkfpleidaoaonaaGreatDoor
section rules
variable {P:Program} {r:Option Nat} {n:Nat} {ops:AO} {Q:Post} {rest:LO} {σ:St} {w w' w0:Wd} {S:NP} {rs:List HP} {put:HP->List HP} {ty:Td} {pos:String} {after:Array Edge} {guard:Option (Nat×Bool)} {lv:List Bool} {pd pd':LNB}
def oD (e:Nat) (v:Value) (xs:L8):HP:=CJ e 1 v xs.length (xs.map B)
theorem aor (xs:L8): ∀u∈xs.map B,u.oneCell'=true:=akk (λ_=>rfl) xs
theorem FX {ρ:Od->Value} {x y:Od} {t e b c:Td} [hs:dD P t e] [hc:Cells P e 1 1] [hz:Zero P e (.int .u8 0)] {v:Value} {xs news:L8}
    (H:Sep w0 S (blk b (news.map B) e::rs) w) (hx:ρ x=v) (hy:ρ y=.slice (some ⟨b,0,none⟩) c c) (hc':c=news.length) (hat:At rs (oD e v xs) put) (h63:xs.length+news.length<=140737488355328):
    ∃v' w',Gives P ρ (.call {callee:=.builtin .append,args:= #[x,y],argTypes:= #[t,t]}) ty w v' w'/\Sep w0 S (put (oD e v' (xs++news))) w':=by
  subst hc';have hr:jB w (some ⟨b,0,none⟩) news.length 1 (news.map B):=Sep.qJ H At0 sM;have H2:=H.eF;obtain⟨F,hp,_,_⟩:=H2.focus hat;obtain⟨v',w',jG,qw,hg,hb⟩:=BG (P:=P) (ty:=ty) t e (z:=.int .u8 0) dC rfl v xs.length (xs.map B) hp.1 (some ⟨b,0,none⟩) news.length news.length (news.map B) hr (aor news) (by unfold maxLen;omega) oM;refine⟨v',w',λ_ _ _ _=>?_,?_⟩
  . simp only[execOp,resolve,invoke,builtin,zbk,zbn,zas,zcl,zax,zcr,hx,hy,jG]
  refine H2.JF hat hg ?_ (by rcases hb with e | e<;>simp[e]);rw[<-zam]at qw;rw[zad];exact qw
theorem sK {d:Nat} {x y:Od} {t e b c:Td} [hs:dD P t e] [hc:Cells P e 1 1] [hz:Zero P e (.int .u8 0)] {v:Value} {xs news:L8}
    (H:Sep w0 S (blk b (news.map B) e::rs) w) (hat:At rs (oD e v xs) put) (h63:xs.length+news.length<=140737488355328) (hx:evF σ x=v:=by exact rfl) (hy:evF σ y=.slice (some ⟨b,0,none⟩) c c:=by exact rfl) (hc':c=news.length:=by exact rfl) (hd:Nat.blt d n=true:=by exact rfl)
    (h: ∀v' w',Sep w0 S (put (oD e v' (xs++news))) w'->FL P r n ops Q rest (upd σ d v') w'):
    FL P r n ops Q (⟨some d,.call {callee:=.builtin .append,args:= #[x,y],argTypes:= #[t,t]},ty,pos,after,none⟩::rest) σ w:=by
  obtain⟨v',w',hg,hs'⟩:=FX (P:=P) (t:=t) (ty:=ty) H hx hy hc' hat h63;exact dU hg hd (h v' w' hs')
theorem aeS (gT:fT n ops=true) (i:Nat) (pd':LNB) {d:Nat} {x y:Od} {t e b c:Td} [hs:dD P t e] [hc:Cells P e 1 1] [hz:Zero P e (.int .u8 0)] {v:Value} {xs news:L8}
    (H:Sep w0 S (blk b (news.map B) e::rs) w) (hat:At rs (oD e v xs) put) (h63:xs.length+news.length<=140737488355328)
    (ho:ops[i]? =some ⟨some d,.call {callee:=.builtin .append,args:= #[x,y],argTypes:= #[t,t]},ty,pos,after,guard⟩:=by exact rfl)
    (hw:Region.wanted ⟨some d,.call {callee:=.builtin .append,args:= #[x,y],argTypes:= #[t,t]},ty,pos,after,guard⟩ (eD ops σ)=true:=by kernel_rfl)
    (hx:evF σ x=v:=by exact rfl) (hy:evF σ y=.slice (some ⟨b,0,none⟩) c c:=by exact rfl) (hc':c=news.length:=by exact rfl) (fq:gY ops lv (pd.map (·.1)) i=true:=by kernel_rfl) (rC:pd.filter (λp=> !((above ops i).contains p.1))=pd':=by exact pD)
    (h: ∀v' w',Sep w0 S (put (oD e v' (xs++news))) w'->mI P ops (upd σ d v') w' pd'/\FG P r n ops Q (lv.set i true) pd' (upd σ d v') w'):FG P r n ops Q lv pd σ w:=
  Av gT i pd' ho hw (FX (P:=P) (t:=t) (ty:=ty) H hx hy hc' hat h63) fq rC h
theorem Sep.Yz (H:Sep w0 S rs w) (e:Nat):Sep w0 S (oD e (.slice none 0 0) []::rs) w:=H.ny e 1
theorem Gives.amo {ρ:Od->Value} {x:Od} {s t e:Td} [hs:dD P s e] [he:lF P e .u8] [hd:nZ P t] {v:Value} {xs:L8} (H:Sep w0 S rs w) (hat:At rs (oD e v xs) put) (hx:ρ x=v):Gives P ρ (.convert s t x) ty w (str xs) w:=by
 obtain⟨A,c,rfl,_,_,_⟩:=Sep.zq H hat;exact Gives.amh hx (Sep.rowAt H hat)
theorem YA {t u ty e:Td} [hs:dD P t e] [hu:nZ P u] [hc:Cells P e 1 1] [hz:Zero P e (.int .u8 0)] {v:Value} {xs news:L8}
    (qw:w.ownsRow 0 e 1 v xs.length (xs.map B)) (h63:xs.length+news.length<=140737488355328):
    ∃v' w',(Builtin.append_ #[t,u] ty #[v,str news]).run P w=.ok v' w'/\w'.ownsRow 0 e 1 v' (xs++news).length ((xs++news).map B)/\w.grownBy w' v.ownBlock/\(v'.ownBlock=v.ownBlock\/v'.ownBlock=some w.heap.size\/v'.ownBlock=none):=by
  obtain⟨i,hi,uD⟩:=zbb.1 hc.size;simp only[Prod.mk.injEq]at uD
  have yT:i.zero=some (.int .u8 0):=by
    have:=hz.run w;simp[zeroValue,typeInfo,hi]at this;cases hq:i.zero with
    | none=>simp[hq]at this
    | some u=>simp[hq]at this;rw[this]
  obtain⟨v',w',jG,h1,h2,h3⟩:=Lib.run_append_own_string (P:=P) w 0 t u ty e i hs.und hu.und hi yT uD.1 uD.2 v xs.length (xs.map B) qw ⟨news.toArray⟩ (by rw[size_mk];unfold maxLen;omega) (by rw[size_mk];omega) (zak _);have e1:Lib.strCells ⟨news.toArray⟩=news.map B:=by simp only[Lib.strCells];rfl
  rw[e1,size_mk]at h1;refine⟨v',w',jG,by rw[zad,zam];exact h1,h2,?_⟩
  rcases qw.2 with⟨rfl,h0⟩ | ⟨g,cap,cur,rfl,hbg,hg,hnc,hcm,hcs,atW⟩
  . by_cases hm:news.length=0
    . rw[h3.2 ⟨rfl,by rw[size_mk];exact hm⟩];exact .inl rfl
    have hr:=run_append_nil_string (P:=P) w t u ty e i (.int .u8 0) hs.und hu.und hi yT ⟨news.toArray⟩ (by rw[size_mk];omega) (by rw[size_mk];omega) (by rw[size_mk,uD.2];omega);have hx:xs.length=0:=h0;rw[jG]at hr;injection hr with hr _
    rw[hr];exact .inr (.inl rfl)
  by_cases hroom:xs.length+news.length<=cap
  . have hcs':cur.size=cap:=by simpa using hcs
    have hr:=Lib.run_append_room_string (P:=P) w t u ty e i hs.und hu.und hi uD.1 g xs.length cap cur hg ⟨news.toArray⟩ (by rw[size_mk];exact hroom) (by rw[size_mk];omega);rw[jG]at hr;injection hr with hr _
    rw[hr];exact .inl rfl
  have holds: ∀j u,(xs.map B)[j]? =some u->w.cell? ((⟨g,0,none⟩:Addr).add j)=some u:=qw.cells (g:=g) rfl;have hr:=Lib.run_append_grow_string (P:=P) w t u ty e i (.int .u8 0) hs.und hu.und hi yT ⟨g,0,none⟩ xs.length cap (xs.map B) (by rw[uD.1];simp) holds ⟨news.toArray⟩ (by rw[size_mk];omega) (by rw[size_mk];omega) (by rw[size_mk,uD.2];exact growslice_fits oM oM);rw[jG]at hr;injection hr with hr _
  rw[hr];exact .inr (.inl rfl)
theorem Pj {d:Nat} {x y:Od} {t u e:Td} [hs:dD P t e] [hu:nZ P u] [hc:Cells P e 1 1] [hz:Zero P e (.int .u8 0)] {v:Value} {xs news:L8}
    (H:Sep w0 S rs w) (hat:At rs (oD e v xs) put) (h63:xs.length+news.length<=140737488355328) (hx:evF σ x=v:=by exact rfl) (hy:evF σ y=str news:=by exact rfl) (hd:Nat.blt d n=true:=by exact rfl)
    (h: ∀v' w',Sep w0 S (put (oD e v' (xs++news))) w'->FL P r n ops Q rest (upd σ d v') w'):
    FL P r n ops Q (⟨some d,.call {callee:=.builtin .append,args:= #[x,y],argTypes:= #[t,u]},ty,pos,after,none⟩::rest) σ w:=by
  obtain⟨F,hp,_,_⟩:=H.focus hat;obtain⟨v',w',jG,qw,hg,hb⟩:=YA (P:=P) (t:=t) (u:=u) (ty:=ty) (news:=news) hp.1 h63;refine dU (v:=v') (w':=w') (λ_ _ _ _=>?_) hd (h v' w' (H.JF hat hg qw hb));simp only[execOp,resolve,invoke,builtin,zbk,zbn,zas,zcl,zax,zcr,hx,hy,jG]
end rules
end Go.Mw
namespace Go.Mw
section
variable {P:Program} {r:Option Nat} {n:Nat} {ops:AO} {Q:Post} {σ:St} {w:Wd} {ty:Td} {pos:String} {after:Array Edge} {guard:Option (Nat×Bool)} {lv:List Bool} {pd:LNB}
theorem yP (gT:fT n ops=true) (e:Nat) (pd':LNB) {d:Nat} {x:Od} {v:Value} (ho:ops[e]? =some ⟨some d,.assign x,ty,pos,after,guard⟩:=by exact rfl)
    (hw:Region.wanted ⟨some d,.assign x,ty,pos,after,guard⟩ (eD ops σ)=true:=by kernel_rfl) (hx:evF σ x=v:=by exact rfl) (fq:gY ops lv (pd.map (·.1)) e=true:=by kernel_rfl)
    (rC:pd.filter (λp=> !((above ops e).contains p.1))=pd':=by exact pD) (h:mI P ops (upd σ d v) w pd'/\FG P r n ops Q (lv.set e true) pd' (upd σ d v) w):FG P r n ops Q lv pd σ w:=
  Av (C:=λv' w'=>v'=v/\w'=w) gT e pd' ho hw ⟨v,w,Gives.assign hx,rfl,rfl⟩ fq rC (λv' w' h'=>by rw[h'.1,h'.2];exact h)
end
end Go.Mw
namespace Go.Proofs.YtkfpleidaoaonaaGreatDoor
open Go Go.Mw Go.Lib
set_option maxRecDepth 4000
attribute [local irreducible] FW FL FG FGn gu gy dh gH Qfn Gives
section
variable {w:Wd} {l:L8}
def yQ (l:L8):Nat×Nat:=(l6 l).getD (0,0)
end
section
variable {w:Wd} {l:L8}
end
end Go.Proofs.YtkfpleidaoaonaaGreatDoor
