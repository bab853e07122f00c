/-
 Runes in bytes:the document's way and the library's way,told plainly. No program stands here.
-/
import Derived.Test.YtkfpleidaoaonaaGreatDoorNw1
import Derived.Lib.MapLaws
import Derived.Lib.ValidLaws
import Derived.Lib.ItoaNum
import Derived.Lib.ParseIntBTie
import Derived.Lib.Bytealg
import Derived.Test.YtkfpleidaoaonaaGreatDoorNw4
import Derived.Test.YtkfpleidaoaonaaGreatDoorNw3
import Derived.Laws.BitsLemmas
import Derived.Lib.AppendStr
set_option linter.unusedVariables false
set_option linter.unusedSimpArgs false
namespace Go.Proofs.YtkfpleidaoaonaaGreatDoor
open Go Go.Lib
def jg (l:L8):Option (Nat×Nat):=if l=[]\/((decodeL l).1=65533/\(decodeL l).2=1)then none else some (decodeL l)
def ae7 (r:Int):Option (L8):=if r<0\/1114111<r\/(55296<=r/\r<=57343)then none else some (encodeRune r)
def Lv:L8->Nat
 | [a]=>a.toNat
 | [a,b]=>64*(a.toNat%32)+b.toNat%64
 | [a,b,c]=>64*(64*(a.toNat%16)+b.toNat%64)+c.toNat%64
 | [a,b,c,d]=>64*(64*(64*(a.toNat%8)+b.toNat%64)+c.toNat%64)+d.toNat%64
 | _=>0
def okL (l:L8) (k:Nat):Prop:=ae7 (Lv (l.take k):Nat)=some (l.take k)
instance (l:L8) (k:Nat):Decidable (okL l k):=by unfold okL;infer_instance

theorem Zk {n:Nat} {a:UInt8}:n.toUInt8=a↔n%256=a.toNat:=by
 rw[<-UInt8.toNat_inj];simp
section
variable {a b c d:UInt8} {t:L8}
theorem ok1:okL (a::t) 1↔a.toNat<128:=by
 have ha:=a.toNat_lt;unfold okL;simp only[zcx,zdi,Lv];unfold ae7;rw[zab oM];constructor
 .intro h
  refine Classical.byContradiction λhn=>?_;rw[encodeRune,encodeRuneZ_two oM oM]at h;simp at h
 intro h;rw[encodeRune,encodeRuneZ_one oM oM];simp
theorem ok2:okL (a::b::t) 2↔a.toNat/32=6/\b.toNat/64=2/\128<=a.toNat%32*64+b.toNat%64:=by
 have ha:=a.toNat_lt;have hb:=b.toNat_lt;unfold okL;simp only[zcx,zdi,Lv];unfold ae7;rw[zab oM]
 by_cases h0:64*(a.toNat%32)+b.toNat%64<128
 .rw[encodeRune,encodeRuneZ_one oM oM]
  simp;omega
 rw[encodeRune,encodeRuneZ_two oM oM];simp only[zay,zcm,Option.some.injEq,List.cons.injEq,and_true,Zk];omega
theorem ok3:okL (a::b::c::t) 3↔a.toNat/16=14/\b.toNat/64=2/\c.toNat/64=2/\2048<=a.toNat%16*4096+b.toNat%64*64+c.toNat%64/\
    (a.toNat%16*4096+b.toNat%64*64+c.toNat%64<55296\/57344<=a.toNat%16*4096+b.toNat%64*64+c.toNat%64):=by
  have ha:=a.toNat_lt;have hb:=b.toNat_lt;have hc:=c.toNat_lt;unfold okL;simp only[zcx,zdi,Lv];unfold ae7
  by_cases hs:55296<=64*(64*(a.toNat%16)+b.toNat%64)+c.toNat%64/\64*(64*(a.toNat%16)+b.toNat%64)+c.toNat%64<=57343
  . rw[zac oM]
    simp;omega
  rw[zab oM]
  by_cases h0:64*(64*(a.toNat%16)+b.toNat%64)+c.toNat%64<128
  . rw[encodeRune,encodeRuneZ_one oM oM]
    simp;omega
  by_cases h1:64*(64*(a.toNat%16)+b.toNat%64)+c.toNat%64<2048
  . rw[encodeRune,encodeRuneZ_two oM oM]
    simp;omega
  rw[encodeRune,encodeRuneZ_three oM];simp only[zay,zcm,Option.some.injEq,List.cons.injEq,and_true,Zk];omega
theorem ok4:okL (a::b::c::d::t) 4↔a.toNat/8=30/\b.toNat/64=2/\c.toNat/64=2/\d.toNat/64=2/\65536<=a.toNat%8*262144+b.toNat%64*4096+c.toNat%64*64+d.toNat%64/\
    a.toNat%8*262144+b.toNat%64*4096+c.toNat%64*64+d.toNat%64<=1114111:=by
  have ha:=a.toNat_lt;have hb:=b.toNat_lt;have hc:=c.toNat_lt;have hd:=d.toNat_lt;unfold okL;simp only[zcx,zdi,Lv];unfold ae7;obtain⟨n,hn⟩: ∃n,n=64*(64*(64*(a.toNat%8)+b.toNat%64)+c.toNat%64)+d.toNat%64:=⟨_,rfl⟩;rw[<-hn]
  by_cases hs:1114111<n\/(55296<=n/\n<=57343)
  . rw[zac oM]
    simp;omega
  rw[zab oM]
  by_cases h0:n<128
  . rw[encodeRune,encodeRuneZ_one oM oM]
    simp;omega
  by_cases h1:n<2048
  . rw[encodeRune,encodeRuneZ_two oM oM]
    simp;omega
  by_cases h2:n<65536
  . rw[encodeRune,encodeRuneZ_three oM]
    simp;omega
  rw[encodeRune,encodeRuneZ_four oM oM];simp only[zay,zcm,Option.some.injEq,List.cons.injEq,and_true,Zk];omega
end
theorem pV (a:UInt8) (t:L8):decodeL (a::t)=decodeN (t.length+1) a.toNat (t.getD 0 0).toNat (t.getD 1 0).toNat (t.getD 2 0).toNat:=by
 rw[decodeL_N];rfl
theorem Dc {l:L8} {k:Nat} (h1:1<=k) (h4:k<=4) (hk:k<=l.length) (h:okL l k):jg l=some (Lv (l.take k),k):=by
 have hk':k=1\/k=2\/k=3\/k=4:=oM;unfold jg
 rcases hk' with rfl | rfl | rfl | rfl
 .obtain⟨a,t,rfl⟩: ∃a t,l=a::t:=by cases l with | nil=>simp at hk | cons a t=>exact⟨a,t,rfl⟩
  have h:=ok1.1 h;have hd:decodeL (a::t)=(a.toNat,1):=by rw[pV,decodeN,zac h]
  rw[hd,zab (by simp;omega)];rfl
 .obtain⟨a,b,t,rfl⟩: ∃a b t,l=a::b::t:=by match l,hk with | a::b::t,_=>exact⟨a,b,t,rfl⟩
  obtain⟨h2,h3,h5⟩:=ok2.1 h
  have hd:decodeL (a::b::t)=(a.toNat%32*64+b.toNat%64,2):=by
   rw[pV,decodeN,zab oM,zac ⟨h2,sM,by simpa using h3⟩];simp only[zev];rw[zac h5]
  rw[hd,zab sM];simp only[zcx,zdi,Lv]
  congr 2;omega
 .obtain⟨a,b,c,t,rfl⟩: ∃a b c t,l=a::b::c::t:=by match l,hk with | a::b::c::t,_=>exact⟨a,b,c,t,rfl⟩
  obtain⟨h2,h3,h5,h6,h7⟩:=ok3.1 h
  have hd:decodeL (a::b::c::t)=(a.toNat%16*4096+b.toNat%64*64+c.toNat%64,3):=by
   rw[pV,decodeN,zab oM,zab oM,zac ⟨h2,⟨sM,by simpa using h3⟩,sM,by simpa using h5⟩];simp only[zev,zfv];rw[zac ⟨h6,oM⟩]
  rw[hd,zab sM];simp only[zcx,zdi,Lv]
  congr 2;omega
 obtain⟨a,b,c,d,t,rfl⟩: ∃a b c d t,l=a::b::c::d::t:=by match l,hk with | a::b::c::d::t,_=>exact⟨a,b,c,d,t,rfl⟩
 obtain⟨h2,h3,h5,h6,h7,h8⟩:=ok4.1 h
 have hd:decodeL (a::b::c::d::t)=(a.toNat%8*262144+b.toNat%64*4096+c.toNat%64*64+d.toNat%64,4):=by
  rw[pV,decodeN,zab oM,zab oM,zab oM,zac ⟨h2,⟨sM,by simpa using h3⟩,⟨sM,by simpa using h5⟩,sM,by simpa using h6⟩];simp only[zev,zfv];rw[zac ⟨h7,oM⟩]
 rw[hd,zab sM];simp only[zcx,zdi,Lv]
 congr 2;omega
theorem abN {l:L8} (h: ∀k,1<=k->k<=4->k<=l.length->¬okL l k):jg l=none:=by
  unfold jg
  match l,h with
  | [],_=>rw[zac (.inl rfl)]
  | a::t,h=>
    rw[pV]
    rcases decodeN_shape (t.length+1) a.toNat (t.getD 0 0).toNat (t.getD 1 0).toNat (t.getD 2 0).toNat with⟨c,e⟩ | ⟨c1,c2,c3,cv,e⟩ | ⟨c1,c2,c3,c4,cv,cs,e⟩ | ⟨c1,c2,c3,c4,c5,cv,cw,e⟩ | e
    . exact zap (ok1.2 c) (h 1 oM oM sM)
    . obtain⟨b,u,rfl⟩: ∃b u,t=b::u:=by cases t with | nil=>simp at c2 | cons b u=>exact⟨b,u,rfl⟩
      exact zap (ok2.2 ⟨c1,c3,cv⟩) (h 2 oM oM sM)
    . obtain⟨b,c,u,rfl⟩: ∃b c u,t=b::c::u:=by
        cases t with
        | nil=>simp at c2
        | cons b u=>cases u with
          | nil=>simp at c2
          | cons c u=>exact⟨b,c,u,rfl⟩
      exact zap (ok3.2 ⟨c1,c3,c4,cv,cs⟩) (h 3 oM oM sM)
    . obtain⟨b,c,d,u,rfl⟩: ∃b c d u,t=b::c::d::u:=by
        cases t with
        | nil=>simp at c2
        | cons b u=>cases u with
          | nil=>simp at c2
          | cons c u=>cases u with
            | nil=>simp at c2
            | cons d u=>exact⟨b,c,d,u,rfl⟩
      exact zap (ok4.2 ⟨c1,c3,c4,c5,cv,cw⟩) (h 4 oM oM sM)
    rw[e,zac (.inr ⟨rfl,rfl⟩)]
theorem sF {l:L8} {r n:Nat} (h:jg l=some (r,n)):decodeL l=(r,n)/\1<=n/\n<=l.length/\encodeRune (r:Int)=l.take n:=by
 unfold jg at h
 split at h
 .cases h
 rename_i hn;injection h with h
 have iC:l≠[]:=λe=>hn (.inl e);have hv: ¬((decodeL l).1=65533/\(decodeL l).2=1):=λe=>hn (.inr e);have h1:=encode_decode l iC hv;have h2:=decodeL_le l iC;have h3:=decodeL_width l;rw[h]at h1 h2 h3;exact⟨h,h3,h2,h1⟩
theorem Lx {l:L8} (iC:l≠[]):validD l=match jg l with | none=>false | some (_,n)=>validD (l.drop n):=by
 rw[validD_step l iC];unfold jg
 by_cases h:(decodeL l).1=65533/\(decodeL l).2=1
 .rw[zac h,zac (.inr h)]
 rw[zab h,zab (λe=>e.elim iC h)]
def l8 (n:Nat):UInt8:=if n<10 then(48+n).toUInt8 else(87+n).toUInt8
def jl (c:UInt8):L8:=
 if c=34 then [92,34]else if c=92 then [92,92]else if c=8 then [92,98]else if c=12 then [92,102]else if c=10 then [92,110]else if c=13 then [92,114]else if c=9 then [92,116]
 else if c<32 then [92,117,48,48,l8 (c.toNat/16),l8 (c.toNat%16)]else [c]
def tT (s:L8):L8:=34::(s.flatMap jl++[34])
def mH (c:UInt8):Option Nat:=if 48<=c.toNat/\c.toNat<=57 then some (c.toNat-48)else if 97<=c.toNat/\c.toNat<=102 then some (c.toNat-87)else if 65<=c.toNat/\c.toNat<=70 then some (c.toNat-55)else none
def qP (s:L8) (second:Bool):Nat×Int:=
 match s[0]? with
 | none=>(0,3)
 | some c0=>match mH c0 with
  | none=>(0,41)
  | some d0=>if second=true/\d0≠13 then(0,41)else match s[1]? with
   | none=>(0,3)
   | some c1=>match mH c1 with
    | none=>(0,41)
    | some d1=>if second≠decide (220<=16*d0+d1/\16*d0+d1<=223)then(0,41)else match s[2]? with
     | none=>(0,3)
     | some c2=>match mH c2 with
      | none=>(0,41)
      | some d2=>match s[3]? with
       | none=>(0,3)
       | some c3=>match mH c3 with
        | none=>(0,41)
        | some d3=>(16*(16*(16*d0+d1)+d2)+d3,0)
def LA (c:UInt8):Option UInt8:=
 if c=34 then some 34 else if c=92 then some 92 else if c=47 then some 47 else if c=98 then some 8 else if c=102 then some 12 else if c=110 then some 10 else if c=114 then some 13 else if c=116 then some 9 else none
def X3 (s:L8) (n:Nat):L8×Nat×Int:=
 match s[6]? with
 | none=>([],0,3)
 | some c6=>if c6≠92 then([],0,41)else match s[7]? with
  | none=>([],0,3)
  | some c7=>if c7≠117 then([],0,41)else
   let k:=qP (s.drop 8) true
   if k.2≠0 then([],0,k.2)else(encodeRune (65536+1024*((n:Int)-55296)+k.1-56320),12,0)
def vg (s:L8):L8×Nat×Int:=
 match s[1]? with
 | none=>([],0,3)
 | some c=>match LA c with
  | some b=>([b],2,0)
  | none=>if c≠117 then([],0,41)else
   let h:=qP (s.drop 2) false
   if h.2≠0 then([],0,h.2)
   else if h.1<55296\/56319<h.1 then(encodeRune h.1,6,0)
   else X3 s h.1
def Zl:L8->Bool
  | [a]=>decide (194<=a.toNat/\a.toNat<=244)
  | [a,b]=>decide ((a.toNat=224/\160<=b.toNat/\b.toNat<=191)\/((225<=a.toNat/\a.toNat<=236\/238<=a.toNat/\a.toNat<=239)/\128<=b.toNat/\b.toNat<=191)\/(a.toNat=237/\128<=b.toNat/\b.toNat<=159)\/
      (a.toNat=240/\144<=b.toNat/\b.toNat<=191)\/(241<=a.toNat/\a.toNat<=243/\128<=b.toNat/\b.toNat<=191)\/(a.toNat=244/\128<=b.toNat/\b.toNat<=143))
  | [a,b,c]=>decide (((a.toNat=240/\144<=b.toNat/\b.toNat<=191)\/(241<=a.toNat/\a.toNat<=243/\128<=b.toNat/\b.toNat<=191)\/(a.toNat=244/\128<=b.toNat/\b.toNat<=143))/\128<=c.toNat/\c.toNat<=191)
  | _=>false
def qQ:Nat->L8->Nat->L8->L8×Nat×Int
 | 0,_,_,_=>([],0,3)
 | f+1,rest,i,out=>match rest with
  | []=>([],0,3)
  | c::t=>if c=34 then(out,i+1,0)else if c<32 then([],0,41)
   else if c=92 then(let e:=vg (c::t);if e.2.2≠0 then([],0,e.2.2)else qQ f ((c::t).drop e.2.1) (i+e.2.1) (out++e.1))
   else match jg (c::t)with
    | some (_,n)=>qQ f ((c::t).drop n) (i+n) (out++(c::t).take n)
    | none=>([],0,if Zl (c::t)then 3 else 40)
def Ra (s:L8):L8×Nat×Int:=
 match s with
 | []=>([],0,3)
 | c::t=>if c≠34 then([],0,41)else qQ (t.length+1) t 1 []
theorem LB (s:L8):(∃e:Int,e≠0/\vg s=([],0,e))\/∃b n,1<=n/\vg s=(b,n,0):=by
 obtain⟨x,hx⟩: ∃x,x=vg s:=⟨_,rfl⟩;rw[<-hx];unfold vg X3 at hx;dsimp only at hx
 repeat' split at hx
 all_goals first
  | exact .inl ⟨_,dC,hx⟩
  | exact .inr ⟨_,_,dC,hx⟩
  | exact .inl ⟨_,by assumption,hx⟩
theorem abO: ∀{f g:Nat} {rest:L8} {i:Nat} {out:L8},rest.length<f->rest.length<g->qQ f rest i out=qQ g rest i out:=by
 intro f
 induction f with
 | zero=>intro g rest i out h;exact zap h (zej _)
 | succ f ih=>
  intro g rest i out hf hg;cases g with
  | zero=>exact zap hg (zej _)
  | succ g=>
   cases rest with
   | nil=>rfl
   | cons c t=>
    unfold qQ
    have aiO: ∀k,1<=k->((c::t).drop k).length<f/\((c::t).drop k).length<g:=λk hk=>by
     rw[zbq];simp only[zal]at hf hg ⊢;omega
    dsimp only
    split
    .rfl
    split
    .rfl
    split
    .split
     .rfl
     rename_i he
     have h1:1<=(vg (c::t)).2.1:=by
      rcases LB (c::t)with⟨e,h0,hx⟩ | ⟨b,n,hn,hx⟩
      .rw[hx]at he;exact zap h0 he
      rw[hx];exact hn
     obtain⟨a,b⟩:=aiO _ h1;exact ih a b
    cases hn:jg (c::t)with
    | none=>rfl
    | some x=>
     obtain⟨r,n⟩:=x;obtain⟨_,h1,_,_⟩:=sF hn;obtain⟨a,b⟩:=aiO _ h1;exact ih a b
structure bN where
 kind:Int
 null:Bool
structure ay where
 null:Bool
 n:Int
 s:L8
structure bF where
 id:Int
 name:L8
 type:bN
 dflt:ay
structure aZ where
 kind:Int
 n:Int
 s:L8
theorem bN.ext' {a b:bN} (h1:a.kind=b.kind) (h2:a.null=b.null):a=b:=by cases a;cases b;simp_all
theorem ay.ext' {a b:ay} (h1:a.null=b.null) (h2:a.n=b.n) (h3:a.s=b.s):a=b:=by cases a;cases b;simp_all
theorem aZ.ext' {a b:aZ} (h1:a.kind=b.kind) (h2:a.n=b.n) (h3:a.s=b.s):a=b:=by cases a;cases b;simp_all
theorem bF.ext' {a b:bF} (h1:a.id=b.id) (h2:a.name=b.name) (h3:a.type=b.type) (h4:a.dflt=b.dflt):a=b:=by cases a;cases b;simp_all
instance:DecidableEq bN:=λa b=>decidable_of_iff (a.kind=b.kind/\a.null=b.null) ⟨λh=>bN.ext' h.1 h.2,λh=>by subst h;exact⟨rfl,rfl⟩⟩
instance:DecidableEq ay:=λa b=>decidable_of_iff (a.null=b.null/\a.n=b.n/\a.s=b.s) ⟨λh=>ay.ext' h.1 h.2.1 h.2.2,λh=>by subst h;exact⟨rfl,rfl,rfl⟩⟩
instance:DecidableEq aZ:=λa b=>decidable_of_iff (a.kind=b.kind/\a.n=b.n/\a.s=b.s) ⟨λh=>aZ.ext' h.1 h.2.1 h.2.2,λh=>by subst h;exact⟨rfl,rfl,rfl⟩⟩
instance:DecidableEq bF:=λa b=>decidable_of_iff (a.id=b.id/\a.name=b.name/\a.type=b.type/\a.dflt=b.dflt) ⟨λh=>bF.ext' h.1 h.2.1 h.2.2.1 h.2.2.2,λh=>by subst h;exact⟨rfl,rfl,rfl,rfl⟩⟩
def cell0:ay:=⟨false,0,[]⟩
def bU:ay:=⟨true,0,[]⟩
def jF:bN:=⟨0,false⟩
def nC (t:bN):Bool:=decide (1<=t.kind/\t.kind<=5)
def isC (kind:Int) (c:ay):Bool:=
 if kind=1 then decide (c.s=[]/\0<=c.n/\c.n<=1)
 else if kind=2 then decide (c.s=[]/\ -2147483648<=c.n/\c.n<=2147483647)
 else if kind=3 then decide (c.s=[])
 else if kind=4 then decide (c.n=0/\c.s.length<=1024/\validD c.s=true)
 else decide (c.n=0/\c.s.length<=1024)
def eF (t:bN) (c:ay):Int:=
 if nC t=false then 2 else if c.null=true then(if t.null=true/\c=bU then 0 else 90)else if isC t.kind c=true then 0 else 90
def iE (x:aZ):Bool:=
 if x.kind=1 then decide (x.s=[]/\1<=x.n/\x.n<=1048576)
 else if x.kind=2 then decide (x.s=[])
 else if x.kind=3 then decide (x.s=[]/\0<=x.n/\x.n<=1)
 else if x.kind=4 then decide (x.n=0/\x.s.length<=1024/\validD x.s=true)
 else if x.kind=5 then decide (x.n=0/\x.s.length<=1024)
 else if x.kind=6 then decide (x.s=[]/\(x.n=1\/(3<=x.n/\x.n<=5)))
 else decide (7<=x.kind/\x.kind<=18/\x.n=0/\x.s=[])
def dz (kind:Int):Nat:=if kind<7 then 0 else if kind=10\/kind=15\/kind=16\/kind=18 then 1 else 2
def lC (cols:List bF) (id:Int):Option Nat:=cols.findIdx? λc=>decide (c.id=id)
def je (cols:List bF) (x:aZ):Option bN:=
 if x.kind=1 then(match lC cols x.n with
  | none=>none
  | some i=>let t:=(cols.getD i ⟨0,[],jF,cell0⟩).type
   if nC t=false then none else some (if t.kind=2 then⟨3,t.null⟩else t))
 else if x.kind=2 then some ⟨3,false⟩
 else if x.kind=3 then some ⟨1,false⟩
 else if x.kind=4 then some ⟨4,false⟩
 else if x.kind=5 then some ⟨5,false⟩
 else some ⟨x.n,true⟩
def Cm (kind:Int) (a b:bN):Option bN:=
 if kind=7\/kind=8\/kind=9\/kind=10 then(if a.kind=3/\b.kind=3 then some ⟨3,a.null||b.null⟩else none)
 else if kind=11\/kind=12 then(if a.kind=b.kind then some ⟨1,a.null||b.null⟩else none)
 else if kind=13\/kind=14\/kind=15 then(if a.kind=1/\b.kind=1 then some ⟨1,a.null||b.null⟩else none)
 else if kind=16 then some ⟨1,false⟩
 else if kind=17 then(if a.kind=b.kind then some ⟨a.kind,a.null&&b.null⟩else none)
 else(if a.kind=4\/a.kind=5 then some ⟨3,a.null||b.null⟩else none)
def stepT (cols:List bF) (st:List bN) (x:aZ):Option (List bN):=
 let k:=dz x.kind
 if iE x=false\/st.length<k then none
 else(if k=0 then je cols x else Cm x.kind (st.getD (st.length-k) jF) (st.getD (st.length-1) jF)).map λt=>st.take (st.length-k)++[t]
def runT (cols:List bF):List bN->List aZ->Option (List bN)
 | st,[]=>some st
 | st,x::l=>(stepT cols st x).bind λst=>runT cols st l
def iA (cols:List bF) (l:List aZ):bN×Int:=
 if 64<l.length then(jF,5)else match runT cols [] l with
  | some [t]=>(t,0)
  | _=>(jF,220)
def iK (b:Bool):ay:=if b then⟨false,1,[]⟩else cell0
def eO (n:Int):Bool:=decide (-9223372036854775808<=n/\n<=9223372036854775807)
def rE (a b:ay):Int:=
 if a.null=b.null then(if a.n<b.n then -1 else if b.n<a.n then 1 else compareBytes a.s b.s)else if a.null=true then -1 else 1
def tV (kind:Int) (a b:ay):ay:=
 if kind=13/\(a=iK false\/b=iK false)then iK false
 else if kind=14/\(a=iK true\/b=iK true)then iK true
 else if a=bU\/b=bU then bU
 else if kind=15 then iK (decide (a=iK false))
 else iK (decide (kind=13))
def iZ (kind:Int) (a b:ay):Option ay:=
 if kind=13\/kind=14\/kind=15 then some (tV kind a b)
 else if kind=16 then some (iK a.null)
 else if kind=17 then some (if a.null then b else a)
 else if a.null=true\/b.null=true then some bU
 else if kind=11 then some (iK (decide (rE a b=0)))
 else if kind=12 then some (iK (decide (rE a b<0)))
 else if kind=18 then some ⟨false,a.s.length,[]⟩
 else let n:=if kind=7 then a.n+b.n else if kind=8 then a.n-b.n else if kind=9 then a.n*b.n else -a.n
  if eO n=true then some ⟨false,n,[]⟩else none
def dY (cols:List bF) (r:List ay):Int:=
 if cols.length≠r.length then 100 else((cols.zip r).map λp=>eF p.1.type p.2).find? (λe=>decide (e≠0)) |>.getD 0
def Cn (cols:List bF) (r:List ay) (st:List ay) (x:aZ):Option (List ay):=
  let k:=dz x.kind
  (if k=0 then some (if x.kind=1 then r.getD ((lC cols x.n).getD 0) cell0 else if x.kind=6 then bU else⟨false,x.n,x.s⟩)
   else iZ x.kind (st.getD (st.length-k) cell0) (st.getD (st.length-1) cell0)).map λc=>st.take (st.length-k)++[c]
def zS (cols:List bF) (r:List ay):List ay->List aZ->Option (List ay)
 | st,[]=>some st
 | st,x::l=>(Cn cols r st x).bind λst=>zS cols r st l
def lN (cols:List bF) (l:List aZ) (r:List ay):ay×Int:=
 if(iA cols l).2≠0 then(cell0,(iA cols l).2)else if dY cols r≠0 then(cell0,dY cols r)
 else match zS cols r [] l with
  | none=>(cell0,50)
  | some st=>(st.getD 0 cell0,0)
def lg (k:Int):List Int->List Int
 | []=>[k]
 | x::l=>if x<k then x::lg k l else if x=k then x::l else k::x::l
def qR (l:List aZ):List Int:=(l.filter λx=>decide (x.kind=1)).foldl (λa x=>lg x.n a) []
/-! Words. -/
def nD (k:Int):L8:=if k=1 then [110,117,108,108,58,98,111,111,108]else if k=3 then [110,117,108,108,58,105,110,116,54,52]else if k=4 then [110,117,108,108,58,115,116,114,105,110,103]else if k=5 then [110,117,108,108,58,98,121,116,101,115]else []
def jZ:List (L8):=[[43],[45],[42],[110,101,103],[61],[60],[97,110,100],[111,114],[110,111,116],[105,115,110,117,108,108],[101,108,115,101],[108,101,110]]
def xq (s:L8):L8:=s.flatMap λc=>[l8 (c.toNat/16),l8 (c.toNat%16)]
def OZ (s:L8):L8:=(tT s).flatMap λc=>if c=32 then [92,117,48,48,50,48]else [c]
def gF (x:aZ):L8:=
 if x.kind=1 then 35::itoa x.n
 else if x.kind=2 then itoa x.n
 else if x.kind=3 then(if x.n=1 then [116,114,117,101]else [102,97,108,115,101])
 else if x.kind=4 then OZ x.s
 else if x.kind=5 then 120::xq x.s
 else if x.kind=6 then nD x.n
 else jZ.getD (x.kind-7).toNat []
def iP (sep:UInt8):List (L8)->L8
 | []=>[]
 | [w]=>w
 | w::l=>w++sep::iP sep l
def iH (l:List aZ):L8×Int:=
 if 64<l.length then([],5)else if(l.all iE)=false then([],2)else(iP 32 (l.map gF),0)
theorem Bn {l:L8} {r n:Nat} (h:jg l=some (r,n)):1<=n/\n<=4/\n<=l.length/\okL l n/\r=Lv (l.take n):=by
 by_cases hk: ∃k,1<=k/\k<=4/\k<=l.length/\okL l k
 .obtain⟨k,h1,h4,hl,eH⟩:=hk
  rw[Dc h1 h4 hl eH]at h;injection h with h
  injection h with h2 h3
  subst h3;exact⟨h1,h4,hl,eH,h2.symm⟩
 rw[abN λk h1 h4 hl eH=>hk ⟨k,h1,h4,hl,eH⟩]at h;cases h
theorem ae8 {l:L8} {r n:Nat} (h:jg l=some (r,n)) (t:L8):jg (l.take n++t)=some (r,n):=by
 obtain⟨h1,h4,hl,eH,hr⟩:=Bn h
 have e:(l.take n++t).take n=l.take n:=by
  rw[zee (by rw[zaj];omega),List.take_take,Nat.min_self]
 have hok':okL (l.take n++t) n:=by unfold okL at eH ⊢;rw[e];exact eH
 rw[Dc h1 h4 (by rw[zad,zaj];omega) hok',e,hr]
theorem X4 {c:UInt8} {t:L8} (h:c.toNat<128):jg (c::t)=some (c.toNat,1):=by
 have:=Dc (l:=c::t) (k:=1) oM oM sM (ok1.2 h);simpa[Lv]using this
theorem abP {l:L8} {r n:Nat} (h:jg l=some (r,n)) (hn:n≠1): ∀c∈l.take n,128<=c.toNat:=by
 obtain⟨h1,h4,hl,eH,_⟩:=Bn h;have hn':n=2\/n=3\/n=4:=oM
 rcases hn' with rfl | rfl | rfl
 .obtain⟨a,b,t,rfl⟩: ∃a b t,l=a::b::t:=by match l,hl with | a::b::t,_=>exact⟨a,b,t,rfl⟩
  obtain⟨h2,h3,_⟩:=ok2.1 eH;intro c hc;simp at hc
  rcases hc with rfl | rfl<;>omega
 .obtain⟨a,b,c,t,rfl⟩: ∃a b c t,l=a::b::c::t:=by match l,hl with | a::b::c::t,_=>exact⟨a,b,c,t,rfl⟩
  obtain⟨h2,h3,h5,_⟩:=ok3.1 eH;intro x hc;simp at hc
  rcases hc with rfl | rfl | rfl<;>omega
 obtain⟨a,b,c,d,t,rfl⟩: ∃a b c d t,l=a::b::c::d::t:=by match l,hl with | a::b::c::d::t,_=>exact⟨a,b,c,d,t,rfl⟩
 obtain⟨h2,h3,h5,h6,_⟩:=ok4.1 eH;intro x hc;simp at hc
 rcases hc with rfl | rfl | rfl | rfl<;>omega
theorem ae9 {l:L8} {r:Nat} (h:jg l=some (r,1)): ∃c t,l=c::t/\c.toNat<128:=by
 obtain⟨h1,h4,hl,eH,_⟩:=Bn h;cases l with
 | nil=>simp at hl
 | cons c t=>exact⟨c,t,rfl,ok1.1 eH⟩
theorem abQ {p:L8->Prop} (h0:p []) (h1: ∀c t,c.toNat<128->validD t=true->p t->p (c::t))
    (h2: ∀l r n,jg l=some (r,n)->n≠1->validD (l.drop n)=true->p (l.drop n)->p l): ∀{l:L8},validD l=true->p l:=by
  intro l
  induction hk:l.length using Nat.strongRecOn generalizing l with
  | _ k ih=>
    intro hv;cases l with
    | nil=>exact h0
    | cons a u=>
      rw[Lx sM]at hv;cases hn:jg (a::u)with
      | none=>rw[hn]at hv;cases hv
      | some x=>
        obtain⟨r,n⟩:=x;rw[hn]at hv;dsimp only at hv;obtain⟨H,_,H,_,_⟩:=Bn hn;have acF:=ih ((a::u).drop n).length (by rw[zbq,<-hk];simp only[zal]at H ⊢;omega) rfl hv
        by_cases he:n=1
        . subst he
          obtain⟨c,t,e,hc⟩:=ae9 hn;injection e with e1 e2
          subst e1;subst e2;exact h1 a u hc hv acF
        exact h2 _ r n hn he hv acF
def iF (c:UInt8):L8:=if c=32 then [92,117,48,48,50,48]else jl c
theorem G7 {c:UInt8} (h:128<=c.toNat):jl c=[c]:=by
 unfold jl;have e: ∀k:UInt8,k.toNat<128->c≠k:=λk hk e=>by subst e;omega
 rw[zab (e _ dC),zab (e _ dC),zab (e _ dC),zab (e _ dC),zab (e _ dC),zab (e _ dC),zab (e _ dC),zab (λh2=>by have:=UInt8.lt_iff_toNat_lt.1 h2;simp at this;omega)]
theorem U1 {c:UInt8} (h:128<=c.toNat):iF c=[c]:=by
 unfold iF;rw[zab (λe=>by subst e;simp at h),G7 h]
theorem Bo {n:Nat} (h:n<16):l8 n≠32:=by
 have : ∀n:Fin 16,l8 n.val≠32:=by decide
 exact this ⟨n,h⟩
theorem U2 (c:UInt8):(jl c).flatMap (λc=>if c=32 then [92,117,48,48,50,48]else [c])=iF c:=by
 unfold iF
 by_cases h:c=32
 .subst h;rfl
 rw[zab h];have h1:l8 (c.toNat/16)≠32:=Bo (by have:=c.toNat_lt;omega);have h2:l8 (c.toNat%16)≠32:=Bo oM;unfold jl
 repeat' split
 all_goals simp_all
theorem zT (s:L8):OZ s=34::(s.flatMap iF++[34]):=by
 unfold OZ tT;rw[zbc,zby,List.flatMap_assoc];have e:(λc=>(jl c).flatMap (λc=>if c=32 then [92,117,48,48,50,48]else [c]))=iF:=funext U2;rw[e];rfl
theorem O1 {d:Nat} (h:d<16):mH (l8 d)=some d:=by
 have : ∀d:Fin 16,mH (l8 d.val)=some d.val:=by decide
 exact this ⟨d,h⟩
theorem afa {a b:Nat} {t:L8} (ha:a<16) (hb:b<16):qP (48::48::l8 a::l8 b::t) false=(16*a+b,0):=by
 have e:mH 48=some 0:=rfl;unfold qP;simp[e,O1 ha,O1 hb]
theorem ahq {c:UInt8} (h:c.toNat<128):encodeRune (c.toNat:Int)=[c]:=by
 rw[encodeRune,encodeRuneZ_one oM oM];simp
theorem ahr {c:UInt8} {t:L8} (h:c.toNat<128):vg (92::117::48::48::l8 (c.toNat/16)::l8 (c.toNat%16)::t)=([c],6,0):=by
 have hh:=afa (t:=t) (show c.toNat/16<16 from oM) (show c.toNat%16<16 from oM);have e2:16*(c.toNat/16)+c.toNat%16=c.toNat:=oM;rw[e2]at hh;have e3:LA 117=none:=rfl;unfold vg;simp only[zch,zcc,e3,zek,zdb,hh];simp only[ne_eq,not_true_eq_false,if_false];rw[zac (.inl oM),ahq h]
theorem afb {c:UInt8} (h:c.toNat<128) (f i:Nat) (u out:L8):qQ (f+1) (iF c++u) i out=qQ f u (i+(iF c).length) (out++[c]):=by
 have key: ∀x b:UInt8,LA x=some b->qQ (f+1) (92::x::u) i out=qQ f u (i+2) (out++[b]):=by
  intro x b hx
  have e:vg (92::x::u)=([b],2,0):=by
   unfold vg;simp only[zch,zcc,hx]
  rw[qQ];simp only[e];simp
 have key2:qQ (f+1) (92::117::48::48::l8 (c.toNat/16)::l8 (c.toNat%16)::u) i out=qQ f u (i+6) (out++[c]):=by
  rw[qQ];simp only[ahr h];simp
 unfold iF
 by_cases h0:c=32
 .subst h0;rw[zac rfl];exact key2
 rw[zab h0];unfold jl
 by_cases h1:c=34
 .subst h1;exact key 34 34 rfl
 rw[zab h1]
 by_cases h2:c=92
 .subst h2;exact key 92 92 rfl
 rw[zab h2]
 by_cases h3:c=8
 .subst h3;exact key 98 8 rfl
 rw[zab h3]
 by_cases h4:c=12
 .subst h4;exact key 102 12 rfl
 rw[zab h4]
 by_cases h5:c=10
 .subst h5;exact key 110 10 rfl
 rw[zab h5]
 by_cases h6:c=13
 .subst h6;exact key 114 13 rfl
 rw[zab h6]
 by_cases h7:c=9
 .subst h7;exact key 116 9 rfl
 rw[zab h7]
 by_cases h8:c<32
 .rw[zac h8];exact key2
 rw[zab h8];show qQ (f+1) (c::u) i out=_
 rw[qQ];simp only[h1,h8,h2,if_false,X4 h];simp
theorem abR {l:L8} (h: ∀c∈l,128<=c.toNat):l.flatMap iF=l:=by
 induction l with
 | nil=>rfl
 | cons c l ih=>
  rw[zbc,U1 (h c zae),ih λx hx=>h x (zag _ hx)];rfl
theorem afc {s:L8} (hv:validD s=true): ∀(f i:Nat) (u out:L8),(s.flatMap iF++34::u).length<=f->qQ f (s.flatMap iF++34::u) i out=(out++s,i+(s.flatMap iF).length+1,0):=by
 refine abQ (p:=λs=>∀(f i:Nat) (u out:L8),(s.flatMap iF++34::u).length<=f->qQ f (s.flatMap iF++34::u) i out=(out++s,i+(s.flatMap iF).length+1,0)) ?_ ?_ ?_ hv
 .intro f i u out hf
  cases f with
  | zero=>simp at hf
  | succ f=>rw[zem,zcb,qQ];simp
 .intro c t hc _ ih f i u out hf
  have hq:1<=(iF c).length:=by
   unfold iF jl
   repeat' split
   all_goals simp
  rw[zbc,zbp]at hf ⊢;rw[zad]at hf;cases f with
  | zero=>omega
  | succ f=>
   rw[afb hc,ih f _ u _ oM,zbp,zad];simp only[zbx,zcb,Prod.mk.injEq,and_true,true_and];omega
 intro l r n hn h1 _ ih f i u out hf;obtain⟨H,_,w,_,_⟩:=Bn hn;have hh:=abP hn h1
 have e:l.flatMap iF=l.take n++(l.drop n).flatMap iF:=by
  conv=>lhs;rw[<-zbs n l]
  rw[zby,abR hh]
 rw[e,zbp]at hf ⊢;rw[zad,zaj]at hf;cases f with
 | zero=>omega
 | succ f=>
  have ha:=ae8 hn ((l.drop n).flatMap iF++34::u)
  obtain⟨c,t,ect⟩: ∃c t,l.take n++((l.drop n).flatMap iF++34::u)=c::t:=by
   cases h0:l.take n++((l.drop n).flatMap iF++34::u)with
   | nil=>simp at h0
   | cons c t=>exact⟨c,t,rfl⟩
  have hc:128<=c.toNat:=by
   refine hh c ?_;cases ht:l.take n with
   | nil=>rw[List.take_eq_nil_iff]at ht;rcases ht with rfl | rfl<;>simp at H w;omega
   | cons a b=>rw[ht]at ect;injection ect with e1 _;rw[e1];exact zae
  have e2: ∀k:UInt8,k.toNat<128->c≠k:=λk hk e=>by subst e;omega
  have hd:(c::t).drop n=(l.drop n).flatMap iF++34::u:=by rw[<-ect,zfc (by rw[zaj];omega),List.drop_take,zet,zdi,zcb]
  have ht:(c::t).take n=l.take n:=by rw[<-ect,zee (by rw[zaj];omega),List.take_take,Nat.min_self]
  rw[ect]at ha ⊢;rw[qQ];dsimp only;rw[zab (e2 _ dC),zab (λh2=>by have:=UInt8.lt_iff_toNat_lt.1 h2;simp at this;omega),zab (e2 _ dC),ha];dsimp only;rw[hd,ht,ih f _ u _ oM,zbp,zbs,zad,zaj];simp only[Prod.mk.injEq,and_true,true_and];omega
theorem afd {s:L8} (hv:validD s=true):Ra (OZ s)=(s,(OZ s).length,0):=by
 rw[zT];unfold Ra;dsimp only;rw[zab sM,afc hv _ _ [] [] oM];simp;omega
/-! Numbers. -/
def tX (c:UInt8):Bool:=decide (48<=c.toNat/\c.toNat<=57)
def lW:L8->Nat->Option Nat
 | [],acc=>some acc
 | c::r,acc=>if tX c=true then lW r (10*acc+(c.toNat-48))else none
theorem G8: ∀(l m:L8) (acc:Nat),lW (l++m) acc=(lW l acc).bind λa=>lW m a
 | [],_,_=>rfl
 | c::l,m,acc=>by
  simp only[zbx,lW]
  split
  .exact G8 l m _
  rfl
theorem Bp {d:Nat} (h:d<10):(UInt8.ofNat (48+d)).toNat=48+d:=by
 simp;omega
theorem uN (u:Nat):lW (decDigits u) 0=some u:=by
 induction u using Nat.strongRecOn with
 | _ u ih=>
  rw[decDigits]
  split
  .rename_i h
   have e:=Bp h;simp only[lW,tX,e];rw[zac (by simp;omega)]
   congr 1;omega
  rename_i h;rw[G8,ih (u/10) oM];have e:=Bp (show u%10<10 from oM);simp only[zdk,lW,tX,e];rw[zac (by simp;omega)]
  congr 1;omega
theorem pW (u:Nat):decDigits u≠[]:=by
 rw[decDigits]
 split<;>simp
theorem oh (u:Nat): ∀c∈decDigits u,tX c=true:=by
 induction u using Nat.strongRecOn with
 | _ u ih=>
  rw[decDigits]
  split
  .rename_i h
   intro c hc;simp only[zar]at hc;subst hc;unfold tX;rw[Bp h];simp;omega
  rename_i h;intro c hc
  rcases zbi.1 hc with hc | hc
  .exact ih (u/10) oM c hc
  simp only[zar]at hc;subst hc;unfold tX;rw[Bp (show u%10<10 from oM)];simp;omega
theorem vk: ∀(k u:Nat),u<10^(k+1)->(decDigits u).length<=k+1
 | 0,u,h=>by rw[decDigits,dif_pos (by simpa using h)];simp
 | k+1,u,h=>by
  rw[decDigits]
  split
  .simp
  have:=vk k (u/10) (by rw[Nat.pow_succ]at h;omega);rw[zad,zah];omega
theorem LC: ∀(l:L8) (acc n:Nat),lW l acc=some n->acc<=n
 | [],acc,n,h=>by simp[lW]at h;omega
 | c::r,acc,n,h=>by
  simp only[lW]at h
  split at h
  .have:=LC r _ n h;omega
  cases h
theorem yF: ∀(l:L8) (acc n:Nat),lW l acc=some n->n<18446744073709551616->parseUint10 acc l=.ok n
 | [],acc,n,h,_=>by simp[lW]at h;simp[parseUint10,h]
 | c::r,acc,n,h,hn=>by
  simp only[lW]at h
  split at h
  .rename_i hc
   have q9:=LC r _ n h;have hc':48<=c.toNat/\c.toNat<=57:=by simpa[tX]using hc
   rw[parseUint10,zac hc',zab oM,zab oM];rw[Nat.mul_comm]at h;exact yF r _ n h hn
  cases h
def lX (w:L8):Int:=match parseIntB 64 w with
 | .ok v=>v
 | .range=>intSat 64 w
 | _=>0
theorem LD {u:Nat}: ∃c r,decDigits u=c::r/\tX c=true:=by
 cases h:decDigits u with
 | nil=>exact zap h (pW u)
 | cons c r=>exact⟨c,r,rfl,oh u c (by rw[h];exact zae)⟩
theorem O4 {u:Nat} (h:u<18446744073709551616):parseUintB 64 (decDigits u)=.ok u:=by
 rw[parseUintB_64,parseMag,zab (pW u),yF _ 0 u (uN u) h]
theorem uO {n:Int} (h0: -9223372036854775808<=n) (h1:n<=9223372036854775807):lX (itoa n)=n:=by
 by_cases hn:n<0
 .have e:itoa n=45::decDigits n.natAbs:=zac hn
  unfold lX;rw[e,parseIntB_minus,O4 oM];simp only[signedC];rw[zab (by simp;omega)];simp only;omega
 have e0:itoa n=decDigits n.toNat:=zab hn;obtain⟨c,r,e,hc⟩:=LD (u:=n.toNat);have hc':48<=c.toNat/\c.toNat<=57:=by simpa[tX]using hc
 have hp:=O4 (u:=n.toNat) oM;unfold lX;rw[e0];rw[e]at hp ⊢;rw[parseIntB_plain _ _ _ oM oM,hp];simp only[signlessC];rw[zab (by simp;omega)];simp only;omega
/-! Bytes. -/
def uj (c:UInt8):Option Nat:=if 48<=c.toNat/\c.toNat<=57 then some (c.toNat-48)else if 97<=c.toNat/\c.toNat<=102 then some (c.toNat-87)else none
def rF:L8->L8
 | a::b::t=>((uj a).getD 0*16+(uj b).getD 0).toUInt8::rF t
 | _=>[]
theorem U3 {d:Nat} (h:d<16):uj (l8 d)=some d:=by
 have : ∀d:Fin 16,uj (l8 d.val)=some d.val:=by decide
 exact this ⟨d,h⟩
theorem abS (c:UInt8):(c.toNat/16*16+c.toNat%16).toUInt8=c:=by
 rw[Zk];have:=c.toNat_lt;omega
theorem O5: ∀s:L8,rF (xq s)=s
 | []=>rfl
 | c::s=>by
  have:=c.toNat_lt;show rF (l8 (c.toNat/16)::l8 (c.toNat%16)::xq s)=_
  rw[rF,U3 oM,U3 oM,O5 s];simp only[zdf,abS]
/-! Words. -/
def Zm:L8:=[116,114,117,101]
def Rc:L8:=[102,97,108,115,101]
def Em (w:L8):L8:=let s:=rF (w.drop 1);if 120::xq s=w/\s.length<=1024 then s else []
def eB (w:L8):aZ:=
 match jZ.findIdx? (λx=>decide (x=w))with
 | some i=>⟨7+i,0,[]⟩
 | none=>match [1,3,4,5].find? (λk:Int=>decide (nD k=w))with
  | some k=>⟨6,k,[]⟩
  | none=>if w=Zm then⟨3,1,[]⟩else if w=Rc then⟨3,0,[]⟩
   else if w.head?=some 35 then⟨1,lX (w.drop 1),[]⟩
   else if w.head?=some 34 then⟨4,0,(Ra w).1⟩
   else if w.head?=some 120 then⟨5,0,Em w⟩
   else⟨2,lX w,[]⟩
theorem X5: ∀x∈jZ,∃c r,x=c::r/\c≠35/\c≠34/\c≠120/\¬(48<=c.toNat/\c.toNat<=57)/\(c=45->r=[]):=by
 intro x hx;simp only[jZ,zan,zao,or_false]at hx
 rcases hx with rfl | rfl | rfl | rfl | rfl | rfl | rfl | rfl | rfl | rfl | rfl | rfl<;>exact⟨_,_,rfl,dC,dC,dC,dC,dC⟩
theorem ahs {c:UInt8} {r:L8} (h:c=35\/c=34\/c=120\/(48<=c.toNat/\c.toNat<=57)\/(c=45/\r≠[])):jZ.findIdx? (λx=>decide (x=c::r))=none:=by
 rw[zdw];intro x hx;obtain⟨c',r',rfl,h1,h2,h3,h4,h5⟩:=X5 x hx;simp only[List.cons.injEq,decide_eq_false_iff_not,not_and];rintro rfl rfl
 rcases h with h | h | h | h | ⟨h,h6⟩
 .exact h1 h
 .exact h2 h
 .exact h3 h
 .exact h4 h
 exact h6 (h5 h)
theorem aht {c:UInt8} {r:L8} (h:c≠110):[1,3,4,5].find? (λk:Int=>decide (nD k=c::r))=none:=by
 rw[zen];intro k hk;simp only[zan,zao,or_false]at hk;simp only[decide_eq_true_eq]
 rcases hk with rfl | rfl | rfl | rfl<;>(intro e;injection e with e _;exact h e.symm)
theorem O6 (n:Int): ∃c r,itoa n=c::r/\((48<=c.toNat/\c.toNat<=57)\/(c=45/\r≠[])):=by
 unfold itoa
 split
 .exact⟨_,_,rfl,.inr ⟨rfl,pW _⟩⟩
 obtain⟨c,r,e,hc⟩:=LD (u:=n.toNat);exact⟨c,r,e,.inl (by simpa[tX]using hc)⟩
theorem yG {c:UInt8} {r:L8} (h:c=35\/c=34\/c=120\/(48<=c.toNat/\c.toNat<=57)\/(c=45/\r≠[])):
    eB (c::r)=if c=35 then⟨1,lX r,[]⟩else if c=34 then⟨4,0,(Ra (c::r)).1⟩else if c=120 then⟨5,0,Em (c::r)⟩else⟨2,lX (c::r),[]⟩:=by
  have hc:c≠110/\c≠116/\c≠102:=by
    rcases h with rfl | rfl | rfl | h | ⟨rfl,_⟩
    . decide
    . decide
    . decide
    . refine⟨?_,?_,?_⟩<;>(rintro rfl;exact zap h dC)
    decide
  unfold eB;rw[ahs h];dsimp only;rw[aht hc.1];dsimp only;rw[zab (by unfold Zm;intro e;injection e with e _;exact hc.2.1 e),zab (by unfold Rc;intro e;injection e with e _;exact hc.2.2 e)];simp only[List.head?_cons,Option.some.injEq,zek,zdb]
theorem X6 {x:aZ} (h:iE x=true) (h0: -9223372036854775808<=x.n) (h1:x.n<=9223372036854775807):eB (gF x)=x:=by
 obtain⟨k,n,s⟩:=x;unfold iE at h;unfold gF;dsimp only at h h0 h1 |-
 by_cases H:k=1
 .subst H
  rw[zac rfl]at h ⊢;simp only[decide_eq_true_eq]at h;rw[yG (.inl rfl),zac rfl,uO h0 h1,h.1]
 rw[zab H]at h |-
 by_cases H:k=2
 .subst H
  rw[zac rfl]at h ⊢;simp only[decide_eq_true_eq]at h;obtain⟨c,r,e,hc⟩:=O6 n;have hp:=uO h0 h1;rw[e]at hp ⊢;rw[yG (.inr (.inr (.inr hc))),zab,zab,zab,hp,h]
  all_goals (rcases hc with hc | ⟨rfl,_⟩<;>first | decide | (rintro rfl;exact zap hc dC))
 rw[zab H]at h |-
 by_cases H:k=3
 .subst H
  rw[zac rfl]at h ⊢;simp only[decide_eq_true_eq]at h;obtain⟨rfl,ha,hb⟩:=h;have :n=0\/n=1:=by omega
  rcases this with rfl | rfl<;>rfl
 rw[zab H]at h |-
 by_cases H:k=4
 .subst H
  rw[zac rfl]at h ⊢;simp only[decide_eq_true_eq]at h;have hu:=afd h.2.2;have e:=zT s;rw[e]at hu ⊢;rw[yG (.inr (.inl rfl)),zab dC,zac rfl,hu,h.1]
 rw[zab H]at h |-
 by_cases H:k=5
 .subst H
  rw[zac rfl]at h ⊢;simp only[decide_eq_true_eq]at h;rw[yG (.inr (.inr (.inl rfl))),zab dC,zab dC,zac rfl];unfold Em;simp only[zek,zdb,O5,true_and];rw[zac h.2,h.1]
 rw[zab H]at h |-
 by_cases H:k=6
 .subst H
  rw[zac rfl]at h ⊢;simp only[decide_eq_true_eq]at h;obtain⟨rfl,hn⟩:=h;have :n=1\/n=3\/n=4\/n=5:=by omega
  rcases this with rfl | rfl | rfl | rfl<;>rfl
 rw[zab H]at h ⊢;simp only[decide_eq_true_eq]at h;obtain⟨ha,hb,rfl,rfl⟩:=h;have :k=7\/k=8\/k=9\/k=10\/k=11\/k=12\/k=13\/k=14\/k=15\/k=16\/k=17\/k=18:=by omega
 rcases this with rfl | rfl | rfl | rfl | rfl | rfl | rfl | rfl | rfl | rfl | rfl | rfl<;>rfl
/-! Expressions as texts. -/
def bY (sep:UInt8):L8->List (L8)
 | []=>[[]]
 | c::l=>if c=sep then []::bY sep l else match bY sep l with
  | w::ws=>(c::w)::ws
  | []=>[[c]]
def qU (x:aZ) (w:L8):Bool:=iE x&&decide (gF x=w)
def readAll:List (L8)->Option (List aZ)
 | []=>some []
 | w::l=>if qU (eB w) w=true then(readAll l).map (eB w:: ·)else none
def dL (s:L8):List aZ×Int:=
 if 1048576<s.length\/64<=s.count 32 then([],5)else if s=[]then([],0)else match readAll (bY 32 s)with
  | some l=>(l,0)
  | none=>([],4)
theorem G9 (w:L8): -9223372036854775808<=lX w/\lX w<=9223372036854775807:=by
 unfold lX
 split
 .rename_i v h
  obtain⟨h1,h2⟩:=parseIntB_bounds h;simp at h1 h2;omega
 .unfold intSat
  split<;>simp
 omega
theorem X7 {w:L8} (h:iE (eB w)=true): -9223372036854775808<=(eB w).n/\(eB w).n<=9223372036854775807:=by
 unfold eB at h |-
 split
 .dsimp only;omega
 split
 .rename_i k hk
  have:=zdv hk;simp at this;dsimp only;omega
 repeat' split
 all_goals first | exact G9 _ | (dsimp only;omega)
theorem FN {x:aZ} {w:L8}:qU x w=true↔iE x=true/\gF x=w:=by
 unfold qU;rw[zbr,decide_eq_true_eq]
/-! Words have no blanks. -/
theorem Bq (n:Int): ∀c∈itoa n,c≠32:=by
 intro c hc e;subst e
 have key: ∀u,(32:UInt8)∉decDigits u:=λu h=>by
  have:=oh u _ h;simp[tX]at this
 unfold itoa at hc
 split at hc
 .rcases zan.1 hc with h | h
  .exact zap h dC
  exact key _ h
 exact key _ hc
theorem abT (c:UInt8): ∀x∈iF c,x≠32:=by
 have h1:l8 (c.toNat/16)≠32:=Bo (by have:=c.toNat_lt;omega);have h2:l8 (c.toNat%16)≠32:=Bo oM;unfold iF jl
 repeat' split
 all_goals (intro x hx;simp only[zan,zao,or_false]at hx)
 all_goals first
  | (rcases hx with rfl | rfl | rfl | rfl | rfl | rfl<;>first | decide | assumption)
  | (rcases hx with rfl | rfl<;>decide)
  | (subst hx;assumption)
theorem X8 (c:UInt8):(iF c).length<=6:=by
 unfold iF jl
 repeat' split
 all_goals simp
theorem zU {f:UInt8->L8} {k:Nat} (h: ∀c,(f c).length<=k): ∀s:L8,(s.flatMap f).length<=k*s.length
 | []=>sM
 | c::s=>by
  have h1:=h c;have h2:=zU h s;rw[zbc,zad,zal,Nat.mul_succ];omega
theorem ahu {x:aZ} (h:iE x=true): ∀c∈gF x,c≠32:=by
 obtain⟨k,n,s⟩:=x;unfold iE at h;unfold gF;dsimp only at h |-
 by_cases H:k=1
 .rw[zac H]
  intro c hc
  rcases zan.1 hc with rfl | hc
  .decide
  exact Bq n c hc
 rw[zab H]at h |-
 by_cases H:k=2
 .rw[zac H];exact Bq n
 rw[zab H]at h |-
 by_cases H:k=3
 .rw[zac H]
  split<;>decide
 rw[zab H]at h |-
 by_cases H:k=4
 .rw[zac H,zT]
  intro c hc
  rcases zan.1 hc with rfl | hc
  .decide
  rcases zbi.1 hc with hc | hc
  .obtain⟨y,_,hy⟩:=zcz.1 hc
   exact abT y c hy
  simp only[zar]at hc;subst hc;decide
 rw[zab H]at h |-
 by_cases H:k=5
 .rw[zac H]
  intro c hc
  rcases zan.1 hc with rfl | hc
  .decide
  obtain⟨y,_,hy⟩:=zcz.1 hc;simp only[zan,zao,or_false]at hy
  rcases hy with rfl | rfl
  .exact Bo (by have:=y.toNat_lt;omega)
  exact Bo oM
 rw[zab H]at h |-
 by_cases H:k=6
 .subst H
  rw[zac rfl]at h ⊢;simp only[decide_eq_true_eq]at h;obtain⟨_,hn⟩:=h;have :n=1\/n=3\/n=4\/n=5:=by omega
  rcases this with rfl | rfl | rfl | rfl<;>decide
 rw[zab H]at h ⊢;simp only[decide_eq_true_eq]at h;obtain⟨ha,hb,_,_⟩:=h;have :k=7\/k=8\/k=9\/k=10\/k=11\/k=12\/k=13\/k=14\/k=15\/k=16\/k=17\/k=18:=by omega
 rcases this with rfl | rfl | rfl | rfl | rfl | rfl | rfl | rfl | rfl | rfl | rfl | rfl<;>decide
theorem zV {n:Int} (h0: -9223372036854775808<=n) (h1:n<=9223372036854775807):(itoa n).length<=20:=by
 unfold itoa
 split
 .have:=vk 18 n.natAbs (by simp;omega)
  simp;omega
 have:=vk 18 n.toNat (by simp;omega);omega
theorem LG {x:aZ} (h:iE x=true) (h0: -9223372036854775808<=x.n) (h1:x.n<=9223372036854775807):(gF x).length<=6146/\gF x≠[]:=by
 obtain⟨k,n,s⟩:=x;unfold iE at h;unfold gF;dsimp only at h h0 h1 ⊢;have hi:=zV h0 h1;obtain⟨c,r,ei,_⟩:=O6 n
 by_cases H:k=1
 .rw[zac H];exact⟨by simp;omega,sM⟩
 rw[zab H]at h |-
 by_cases H:k=2
 .rw[zac H];exact⟨oM,by rw[ei];simp⟩
 rw[zab H]at h |-
 by_cases H:k=3
 .rw[zac H]
  split<;>exact⟨dC,dC⟩
 rw[zab H]at h |-
 by_cases H:k=4
 .rw[zac H]at h |-
  simp only[decide_eq_true_eq]at h;rw[zT];have:=zU X8 s;exact⟨by simp only[zal,zad,zcu];omega,sM⟩
 rw[zab H]at h |-
 by_cases H:k=5
 .rw[zac H]at h |-
  simp only[decide_eq_true_eq]at h;have :(xq s).length<=2*s.length:=zU (f:=λc:UInt8=>[l8 (c.toNat/16),l8 (c.toNat%16)]) (λc=>by simp) s;exact⟨by simp only[zal];omega,sM⟩
 rw[zab H]at h |-
 by_cases H:k=6
 .subst H
  rw[zac rfl]at h ⊢;simp only[decide_eq_true_eq]at h;obtain⟨_,hn⟩:=h;have :n=1\/n=3\/n=4\/n=5:=by omega
  rcases this with rfl | rfl | rfl | rfl<;>exact⟨dC,dC⟩
 rw[zab H]at h ⊢;simp only[decide_eq_true_eq]at h;obtain⟨ha,hb,_,_⟩:=h;have :k=7\/k=8\/k=9\/k=10\/k=11\/k=12\/k=13\/k=14\/k=15\/k=16\/k=17\/k=18:=by omega
 rcases this with rfl | rfl | rfl | rfl | rfl | rfl | rfl | rfl | rfl | rfl | rfl | rfl<;>exact⟨dC,dC⟩
/-! Split and join. -/
theorem U4 (sep:UInt8): ∀l:L8,bY sep l≠[]
 | []=>by simp[bY]
 | c::l=>by
  unfold bY
  split
  .simp
  split<;>simp
theorem oK {sep c:UInt8} {l:L8} (h:c≠sep): ∃w ws,bY sep l=w::ws/\bY sep (c::l)=(c::w)::ws:=by
 cases e:bY sep l with
 | nil=>exact zap e (U4 sep l)
 | cons w ws=>exact⟨w,ws,rfl,by rw[bY,zab h,e]⟩
theorem Df {sep:UInt8} {w:L8} (h: ∀c∈w,c≠sep):bY sep w=[w]:=by
 induction w with
 | nil=>rfl
 | cons c w ih=>
  obtain⟨a,b,e1,e2⟩:=oK (l:=w) (h c zae);rw[ih λx hx=>h x (zag _ hx)]at e1;injection e1 with e1 e3
  rw[e2,<-e1,<-e3]
theorem FP {sep:UInt8} {w l:L8} (h: ∀c∈w,c≠sep):bY sep (w++sep::l)=w::bY sep l:=by
 induction w with
 | nil=>rw[zcb,bY,zac rfl]
 | cons c w ih=>
  obtain⟨a,b,e1,e2⟩:=oK (l:=w++sep::l) (h c zae);rw[ih λx hx=>h x (zag _ hx)]at e1;injection e1 with e1 e3
  rw[zbx,e2,<-e1,<-e3]
theorem Dg {sep:UInt8}: ∀{ws:List (L8)},ws≠[]->(∀w∈ws,∀c∈w,c≠sep)->bY sep (iP sep ws)=ws
 | [],h,_=>zap rfl h
 | [w],_,h=>Df (h w zae)
 | w::w'::ws,_,h=>by
  show bY sep (w++sep::iP sep (w'::ws))=_
  rw[FP (h w zae),Dg sM λx hx=>h x (zag _ hx)]
theorem Di (sep:UInt8): ∀l:L8,iP sep (bY sep l)=l
 | []=>rfl
 | c::l=>by
  have ih:=Di sep l
  by_cases h:c=sep
  .rw[bY,zac h]
   obtain⟨w,ws,e⟩: ∃w ws,bY sep l=w::ws:=by
    cases e:bY sep l with
    | nil=>exact zap e (U4 sep l)
    | cons w ws=>exact⟨w,ws,rfl⟩
   rw[e]at ih ⊢;show []++sep::iP sep (w::ws)=_
   rw[ih,h];rfl
  obtain⟨w,ws,e1,e2⟩:=oK (l:=l) h;rw[e2];rw[e1]at ih;cases ws with
  | nil=>show c::w=_;rw[<-ih];rfl
  | cons w' ws=>show(c::w)++sep::iP sep (w'::ws)=_;rw[<-ih];rfl
theorem uP (sep:UInt8): ∀l:L8,(bY sep l).length=l.count sep+1
 | []=>rfl
 | c::l=>by
  have ih:=uP sep l
  by_cases h:c=sep
  .rw[bY,zac h,zal,ih,h,List.count_cons_self]
  obtain⟨w,ws,e1,e2⟩:=oK (l:=l) h;rw[e1]at ih;rw[e2,List.count_cons_of_ne h];simpa using ih
theorem zW (sep:UInt8) {k:Nat}: ∀{ws:List (L8)},(∀w∈ws,w.length<=k)->(iP sep ws).length<=(k+1)*ws.length
 | [],_=>by simp[iP]
 | [w],h=>by have:=h w zae;simp[iP];omega
 | w::w'::ws,h=>by
  have h1:=h w zae;have h2:=zW sep (ws:=w'::ws) λx hx=>h x (zag _ hx);show(w++sep::iP sep (w'::ws)).length<=_
  simp only[zad,zal]at h2 ⊢;rw[Nat.mul_succ];omega
theorem Co: ∀{l:List aZ},(∀x∈l,iE x=true/\ -9223372036854775808<=x.n/\x.n<=9223372036854775807)->readAll (l.map gF)=some l
 | [],_=>rfl
 | x::l,h=>by
  obtain⟨h1,h2,h3⟩:=h x zae;have e:=X6 h1 h2 h3;rw[zay,readAll,e,zac (FN.2 ⟨h1,rfl⟩),Co λy hy=>h y (zag _ hy)];rfl
theorem En: ∀{ws:List (L8)} {l:List aZ},readAll ws=some l->l.map gF=ws/\∀x∈l,iE x=true/\ -9223372036854775808<=x.n/\x.n<=9223372036854775807
 | [],l,h=>by simp[readAll]at h;subst h;exact⟨rfl,λ_ h=>by cases h⟩
 | w::ws,l,h=>by
  rw[readAll]at h
  split at h
  .rename_i hg
   obtain⟨m,hm,rfl⟩:=zav.1 h;obtain⟨h1,h2⟩:=FN.1 hg;obtain⟨h3,h4⟩:=En hm;refine⟨by rw[zay,h2,h3],λx hx=>?_⟩
   rcases zan.1 hx with rfl | hx
   .exact⟨h1,X7 h1⟩
   exact h4 x hx
  cases h
theorem LH {l:List aZ} (h: ∀x∈l,iE x=true/\ -9223372036854775808<=x.n/\x.n<=9223372036854775807) (hl:l.length<=64):iH l=(iP 32 (l.map gF),0)/\dL (iP 32 (l.map gF))=(l,0)/\(l≠[]->(iP 32 (l.map gF)).count 32=l.length-1):=by
 refine⟨?_,?_⟩
 .unfold iH
  rw[zab oM,zab];rw[Bool.not_eq_false,zbf];exact λx hx=>(h x hx).1
 by_cases h0:l=[]
 .subst h0;exact⟨rfl,λh=>zap rfl h⟩
 have iC:l.map gF≠[]:=by simpa using h0
 have hnb: ∀w∈l.map gF,∀c∈w,c≠32:=λw hw=>by
  obtain⟨x,hx,rfl⟩:=zat.1 hw;exact ahu (h x hx).1
 have hs:=Dg iC hnb;have hc:=uP 32 (iP 32 (l.map gF));rw[hs,zaf]at hc
 have hlen:(iP 32 (l.map gF)).length<=(6146+1)*(l.map gF).length:=zW 32 λw hw=>by
  obtain⟨x,hx,rfl⟩:=zat.1 hw;exact(LG (h x hx).1 (h x hx).2.1 (h x hx).2.2).1
 rw[zaf]at hlen
 have hnn:iP 32 (l.map gF)≠[]:=by
  intro e;rw[e]at hs;have :l.map gF=[[]]:=hs.symm;cases l with
  | nil=>exact h0 rfl
  | cons x l=>
   simp only[zay,List.cons.injEq]at this;exact(LG (h x zae).1 (h x zae).2.1 (h x zae).2.2).2 this.1
 refine⟨?_,λ_=>oM⟩;unfold dL;rw[zab oM,zab hnn,hs,Co h]
theorem X9 {s:L8} {l:List aZ} (h:dL s=(l,0)):iH l=(s,0):=by
 unfold dL at h
 split at h
 .injection h with _ h;cases h
 rename_i hb
 split at h
 .rename_i h0
  injection h with h _
  subst h;subst h0;rfl
 split at h
 .rename_i m hm
  injection h with h _
  subst h;obtain⟨h1,h2⟩:=En hm;have hc:=uP 32 s;rw[<-h1,zaf]at hc;have:=(LH h2 oM).1;rw[this,h1,Di]
 injection h with _ h;cases h
end Go.Proofs.YtkfpleidaoaonaaGreatDoor
namespace Go.Proofs.YtkfpleidaoaonaaGreatDoor
open Go Go.Mw Go.Lib

def I (n:Int):Value:=.int .i64 n
def I32 (n:Int):Value:=.int .i32 n
def B (c:UInt8):Value:=.int .u8 c.toNat
def fits (n:Int):Prop:= -9223372036854775808<=n/\n<=9223372036854775807
theorem ahv {α:Type} {f:α->Value} (h: ∀x,(f x).oneCell'=true) (l:List α): ∀u∈l.map f,u.oneCell'=true:=λu hu=>by
 obtain⟨x,_,rfl⟩:=zat.1 hu;exact h x
theorem alu {n:Int} (h0:0<=n):IntKind.u8.wrap n=((n.toNat.toUInt8).toNat:Int):=by
 rw[IntKind.wrap_u8];simp;omega
theorem wrap32 {n:Int} (h: -2147483648<=n/\n<=2147483647):IntKind.i32.wrap n=n:=by
 rw[IntKind.wrap_i32];omega
theorem wrap64 {n:Int} (h: -9223372036854775808<=n/\n<=9223372036854775807):IntKind.i64.wrap n=n:=IntWalk.i64_in _ h
end Go.Proofs.YtkfpleidaoaonaaGreatDoor
namespace Go.Mw
section gives
variable {P:Program} {ρ:Od->Value} {ty:Td} {w:Wd} {x y:Od} {T U:Td} {k:IntKind}
theorem Gives.anq {a b:Nat} (hx:ρ x=.int k a) (hy:ρ y=.int k b) (h0:b≠0):Gives P ρ (.binOp .rem T x y U) ty w (.int k ((a%b:Nat):Int)) w:=by
 have:=Gives.rem (P:=P) (ty:=ty) (w:=w) (T:=T) (U:=U) hx hy oM
 rwa [Int.tmod_eq_emod_of_nonneg oM,<-Int.natCast_emod]at this
theorem Gives.U5 {a b:Nat} (hx:ρ x=.int .i64 a) (hy:ρ y=.int .i64 b) (h0:b≠0) (h:a<=9223372036854775807):Gives P ρ (.binOp .quo T x y U) ty w (.int .i64 ((a/b:Nat):Int)) w:=by
 have:=Gives.quo (P:=P) (ty:=ty) (w:=w) (T:=T) (U:=U) hx hy oM;have e:a/b<=a:=Nat.div_le_self a b;have e2:(a:Int).tdiv (b:Int)=((a/b:Nat):Int):=by rw[Int.tdiv_eq_ediv_of_nonneg oM];rfl
 obtain⟨q,hq⟩: ∃q,q=a/b:=⟨_,rfl⟩;rw[<-hq]at e e2 |-
 rwa [e2,IntWalk.i64_in (q:Int) oM]at this
theorem Gives.alv {s t:Td} {c:UInt8} [hs:lZ P s .u8] [ht:lZ P t .i64] (hx:ρ x=.int .u8 c.toNat):Gives P ρ (.convert s t x) ty w (.int .i64 c.toNat) w:=by
 have:=Gives.conv (P:=P) (ty:=ty) (w:=w) (s:=s) (t:=t) (k:=.i64) hx;have hc:=c.toNat_lt
 rwa [IntWalk.i64_in _ oM]at this
theorem Gives.ahw {s t:Td} {j:IntKind} {a:Int} [hs:lZ P s j] [ht:lZ P t .i64] (hx:ρ x=.int j a) (h: -9223372036854775808<=a/\a<=9223372036854775807):Gives P ρ (.convert s t x) ty w (.int .i64 a) w:=by
 have:=Gives.conv (P:=P) (ty:=ty) (w:=w) (s:=s) (t:=t) (k:=.i64) hx
 rwa [IntWalk.i64_in _ h]at this
theorem Gives.Zn {s t:Td} {j:IntKind} {a:Int} [hs:lZ P s j] [ht:lZ P t .i32] (hx:ρ x=.int j a) (h: -2147483648<=a/\a<=2147483647):Gives P ρ (.convert s t x) ty w (.int .i32 a) w:=by
 have:=Gives.conv (P:=P) (ty:=ty) (w:=w) (s:=s) (t:=t) (k:=.i32) hx
 rwa [Go.Proofs.YtkfpleidaoaonaaGreatDoor.wrap32 h]at this
theorem Gives.afe {s t:Td} {j:IntKind} {a:Int} [hs:lZ P s j] [ht:lZ P t .u8] (hx:ρ x=.int j a) (h:0<=a):Gives P ρ (.convert s t x) ty w (.int .u8 (a.toNat.toUInt8).toNat) w:=by
 have:=Gives.conv (P:=P) (ty:=ty) (w:=w) (s:=s) (t:=t) (k:=.u8) hx
 rwa [Go.Proofs.YtkfpleidaoaonaaGreatDoor.alu h]at this
end gives
end Go.Mw
namespace Go.Mw
open Go.RowKit Go.Proofs.YtkfpleidaoaonaaGreatDoor
section rules
variable {P:Program} {r:Option Nat} {n:Nat} {ops:AO} {Q:Post} {rest:LO} {σ:St} {w w' w0:Wd} {S:NP} {rs:List HP} {put:HP->List HP} {ty:Td} {pos:String} {after:Array Edge} {guard:Option (Nat×Bool)} {lv:List Bool} {pd pd':LNB}
def lF (e:Nat) (v:Value) (xs:L8):HP:=yU e 1 v xs.length (xs.map B)
theorem alx (xs:L8): ∀u∈xs.map B,u.oneCell'=true:=ahv (λ_=>rfl) xs
theorem Cq {ρ:Od->Value} {x y:Od} {t e b c:Td} [hs:dh P t e] [hc:Cells P e 1 1] [hz:Zero P e (.int .u8 0)] {v:Value} {xs news:L8}
    (H:Sep w0 S (blk b (news.map B) e::rs) w) (hx:ρ x=v) (hy:ρ y=.slice (some ⟨b,0,none⟩) c c) (hc':c=news.length) (hat:At rs (lF e v xs) put) (h63:xs.length+news.length<=140737488355328):
    ∃v' w',Gives P ρ (.call {callee:=.builtin .append,args:= #[x,y],argTypes:= #[t,t]}) ty w v' w'/\Sep w0 S (put (lF e v' (xs++news))) w':=by
  subst hc';have hr:gV w (some ⟨b,0,none⟩) news.length 1 (news.map B):=Sep.nA H At0 sM;have k:=H.dA;obtain⟨F,hp,_,_⟩:=k.focus hat;obtain⟨v',w',iw,mR,hg,hb⟩:=yh (P:=P) (ty:=ty) t e (z:=.int .u8 0) dC rfl v xs.length (xs.map B) hp.1 (some ⟨b,0,none⟩) news.length news.length (news.map B) hr (alx news) (by unfold maxLen;omega) oM;refine⟨v',w',λ_ _ _ _=>?_,?_⟩
  . simp only[execOp,resolve,invoke,builtin,zbh,zbm,zai,zcg,zay,zcm,hx,hy,iw]
  refine k.D7 hat hg ?_ (by rcases hb with e | e<;>simp[e]);rw[<-zau]at mR;rw[zad];exact mR
theorem oL {d:Nat} {x y:Od} {t e b c:Td} [hs:dh P t e] [hc:Cells P e 1 1] [hz:Zero P e (.int .u8 0)] {v:Value} {xs news:L8}
    (H:Sep w0 S (blk b (news.map B) e::rs) w) (hat:At rs (lF e v xs) put) (h63:xs.length+news.length<=140737488355328) (hx:evF σ x=v:=by exact rfl) (hy:evF σ y=.slice (some ⟨b,0,none⟩) c c:=by exact rfl) (hc':c=news.length:=by exact rfl) (hd:Nat.blt d n=true:=by exact rfl)
    (h: ∀v' w',Sep w0 S (put (lF e v' (xs++news))) w'->FL P r n ops Q rest (upd σ d v') w'):
    FL P r n ops Q (⟨some d,.call {callee:=.builtin .append,args:= #[x,y],argTypes:= #[t,t]},ty,pos,after,none⟩::rest) σ w:=by
  obtain⟨v',w',hg,hs'⟩:=Cq (P:=P) (t:=t) (ty:=ty) H hx hy hc' hat h63;exact dG hg hd (h v' w' hs')
theorem abU (eH:dJ n ops=true) (i:Nat) (pd':LNB) {d:Nat} {x y:Od} {t e b c:Td} [hs:dh P t e] [hc:Cells P e 1 1] [hz:Zero P e (.int .u8 0)] {v:Value} {xs news:L8}
    (H:Sep w0 S (blk b (news.map B) e::rs) w) (hat:At rs (lF e v xs) put) (h63:xs.length+news.length<=140737488355328)
    (ho:ops[i]? =some ⟨some d,.call {callee:=.builtin .append,args:= #[x,y],argTypes:= #[t,t]},ty,pos,after,guard⟩:=by exact rfl)
    (hw:Region.wanted ⟨some d,.call {callee:=.builtin .append,args:= #[x,y],argTypes:= #[t,t]},ty,pos,after,guard⟩ (bX ops σ)=true:=by kernel_rfl)
    (hx:evF σ x=v:=by exact rfl) (hy:evF σ y=.slice (some ⟨b,0,none⟩) c c:=by exact rfl) (hc':c=news.length:=by exact rfl) (d9:eX ops lv (pd.map (·.1)) i=true:=by kernel_rfl) (oo:pd.filter (λp=> !((above ops i).contains p.1))=pd':=by exact pD)
    (h: ∀v' w',Sep w0 S (put (lF e v' (xs++news))) w'->jk P ops (upd σ d v') w' pd'/\FG P r n ops Q (lv.set i true) pd' (upd σ d v') w'):FG P r n ops Q lv pd σ w:=
  vW eH i pd' ho hw (Cq (P:=P) (t:=t) (ty:=ty) H hx hy hc' hat h63) d9 oo h
theorem Sep.U6 (H:Sep w0 S rs w) (e:Nat):Sep w0 S (lF e (.slice none 0 0) []::rs) w:=H.jM e 1
theorem Gives.ajz {ρ:Od->Value} {x:Od} {s t e:Td} [hs:dh P s e] [he:lZ P e .u8] [hd:j3 P t] {v:Value} {xs:L8} (H:Sep w0 S rs w) (hat:At rs (lF e v xs) put) (hx:ρ x=v):Gives P ρ (.convert s t x) ty w (str xs) w:=by
 obtain⟨A,c,rfl,_,_,_⟩:=Sep.uI H hat;exact Gives.ajp hx (Sep.rowAt H hat)
theorem U7 {t u ty e:Td} [hs:dh P t e] [hu:j3 P u] [hc:Cells P e 1 1] [hz:Zero P e (.int .u8 0)] {v:Value} {xs news:L8}
    (mR:w.ownsRow 0 e 1 v xs.length (xs.map B)) (h63:xs.length+news.length<=140737488355328):
    ∃v' w',(Builtin.append_ #[t,u] ty #[v,str news]).run P w=.ok v' w'/\w'.ownsRow 0 e 1 v' (xs++news).length ((xs++news).map B)/\w.grownBy w' v.ownBlock/\(v'.ownBlock=v.ownBlock\/v'.ownBlock=some w.heap.size\/v'.ownBlock=none):=by
  obtain⟨i,hi,p9⟩:=zav.1 hc.size;simp only[Prod.mk.injEq]at p9
  have uf:i.zero=some (.int .u8 0):=by
    have:=hz.run w;simp[zeroValue,typeInfo,hi]at this;cases hq:i.zero with
    | none=>simp[hq]at this
    | some u=>simp[hq]at this;rw[this]
  obtain⟨v',w',iw,h1,h2,h3⟩:=Lib.run_append_own_string (P:=P) w 0 t u ty e i hs.und hu.und hi uf p9.1 p9.2 v xs.length (xs.map B) mR ⟨news.toArray⟩ (by rw[size_mk];unfold maxLen;omega) (by rw[size_mk];omega) (zaq _);have e1:Lib.strCells ⟨news.toArray⟩=news.map B:=by simp only[Lib.strCells];rfl
  rw[e1,size_mk]at h1;refine⟨v',w',iw,by rw[zad,zau];exact h1,h2,?_⟩
  rcases mR.2 with⟨rfl,h0⟩ | ⟨g,cap,cur,rfl,hbg,hg,hnc,hcm,hcs,aqE⟩
  . by_cases hm:news.length=0
    . rw[h3.2 ⟨rfl,by rw[size_mk];exact hm⟩];exact .inl rfl
    have hr:=run_append_nil_string (P:=P) w t u ty e i (.int .u8 0) hs.und hu.und hi uf ⟨news.toArray⟩ (by rw[size_mk];omega) (by rw[size_mk];omega) (by rw[size_mk,p9.2];omega);have hx:xs.length=0:=h0;rw[iw]at hr;injection hr with hr _
    rw[hr];exact .inr (.inl rfl)
  by_cases hroom:xs.length+news.length<=cap
  . have hcs':cur.size=cap:=by simpa using hcs
    have hr:=Lib.run_append_room_string (P:=P) w t u ty e i hs.und hu.und hi p9.1 g xs.length cap cur hg ⟨news.toArray⟩ (by rw[size_mk];exact hroom) (by rw[size_mk];omega);rw[iw]at hr;injection hr with hr _
    rw[hr];exact .inl rfl
  have holds: ∀j u,(xs.map B)[j]? =some u->w.cell? ((⟨g,0,none⟩:Addr).add j)=some u:=mR.cells (g:=g) rfl;have hr:=Lib.run_append_grow_string (P:=P) w t u ty e i (.int .u8 0) hs.und hu.und hi uf ⟨g,0,none⟩ xs.length cap (xs.map B) (by rw[p9.1];simp) holds ⟨news.toArray⟩ (by rw[size_mk];omega) (by rw[size_mk];omega) (by rw[size_mk,p9.2];exact growslice_fits oM oM);rw[iw]at hr;injection hr with hr _
  rw[hr];exact .inr (.inl rfl)
theorem LJ {d:Nat} {x y:Od} {t u e:Td} [hs:dh P t e] [hu:j3 P u] [hc:Cells P e 1 1] [hz:Zero P e (.int .u8 0)] {v:Value} {xs news:L8}
    (H:Sep w0 S rs w) (hat:At rs (lF e v xs) put) (h63:xs.length+news.length<=140737488355328) (hx:evF σ x=v:=by exact rfl) (hy:evF σ y=str news:=by exact rfl) (hd:Nat.blt d n=true:=by exact rfl)
    (h: ∀v' w',Sep w0 S (put (lF e v' (xs++news))) w'->FL P r n ops Q rest (upd σ d v') w'):
    FL P r n ops Q (⟨some d,.call {callee:=.builtin .append,args:= #[x,y],argTypes:= #[t,u]},ty,pos,after,none⟩::rest) σ w:=by
  obtain⟨F,hp,_,_⟩:=H.focus hat;obtain⟨v',w',iw,mR,hg,hb⟩:=U7 (P:=P) (t:=t) (u:=u) (ty:=ty) (news:=news) hp.1 h63;refine dG (v:=v') (w':=w') (λ_ _ _ _=>?_) hd (h v' w' (H.D7 hat hg mR hb));simp only[execOp,resolve,invoke,builtin,zbh,zbm,zai,zcg,zay,zcm,hx,hy,iw]
end rules
end Go.Mw
namespace Go.Mw
section
variable {P:Program} {r:Option Nat} {n:Nat} {ops:AO} {Q:Post} {σ:St} {w:Wd} {ty:Td} {pos:String} {after:Array Edge} {guard:Option (Nat×Bool)} {lv:List Bool} {pd:LNB}
theorem Ja (eH:dJ n ops=true) (e:Nat) (pd':LNB) {d:Nat} {x:Od} {v:Value} (ho:ops[e]? =some ⟨some d,.assign x,ty,pos,after,guard⟩:=by exact rfl)
    (hw:Region.wanted ⟨some d,.assign x,ty,pos,after,guard⟩ (bX ops σ)=true:=by kernel_rfl) (hx:evF σ x=v:=by exact rfl) (d9:eX ops lv (pd.map (·.1)) e=true:=by kernel_rfl)
    (oo:pd.filter (λp=> !((above ops e).contains p.1))=pd':=by exact pD) (h:jk P ops (upd σ d v) w pd'/\FG P r n ops Q (lv.set e true) pd' (upd σ d v) w):FG P r n ops Q lv pd σ w:=
  vW (C:=λv' w'=>v'=v/\w'=w) eH e pd' ho hw ⟨v,w,Gives.assign hx,rfl,rfl⟩ d9 oo (λv' w' h'=>by rw[h'.1,h'.2];exact h)
end
end Go.Mw
namespace Go.Proofs.YtkfpleidaoaonaaGreatDoor
open Go Go.Mw Go.Lib
set_option maxRecDepth 4000
attribute [local irreducible] FW FL FG FGn fZ gG cO gW Qfn Gives
section
variable {w:Wd} {l:L8}
def tY (l:L8):Nat×Nat:=(jg l).getD (0,0)
end
section
variable {w:Wd} {l:L8}
end
end Go.Proofs.YtkfpleidaoaonaaGreatDoor
