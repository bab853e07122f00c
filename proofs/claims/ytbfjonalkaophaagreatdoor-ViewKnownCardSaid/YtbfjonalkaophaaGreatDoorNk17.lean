/-
 Texts of plans:written,read back. No program stands here.
-/
import Derived.Test.YtbfjonalkaophaaGreatDoorNk16
set_option linter.all false
set_option maxRecDepth 8000
namespace Go.Proofs.Mw
open Go.Lib
def Fv: ∀l:List (L8),uz l=jo 10 (l++[[]])
 | []=>rfl
 | [w]=>by simp[uz,jo]
 | w::x::l=>by
  have i:=Fv (x::l);unfold uz at i ⊢;rw[zbi,i];show w++[10]++_=w++10::jo 10 (x::l++[[]])
  simp
variable {ls:List (L8)}
def Oz (h: ∀w∈ls,∀c∈w,c≠10):jE (uz ls)=(ls,true):=by
 have f:dK 10 (uz ls)=ls++[[]]:=by
  rw[Fv];refine EH sM λw g=>?_
  rcases zbh.1 g with a | a
  .exact h w a
  rw[zaw.1 a];intro c d;cases d
 unfold jE;rw[f,zac sM];simp
def G8 (s:L8):dK 10 s≠[]:=λe=>by
 have:=EI 10 s;cases s with
 | nil=>cases e
 | cons c l=>rw[e]at this;cases this
def ME (n:Int): ∀c∈itoa n,c≠10:=by
 intro c a e;subst e
 have key: ∀u,(10:UInt8)∉decDigits u:=λu h=>by
  have:=pR u _ h;simp[uh]at this
 unfold itoa at a
 split at a
 .rcases zax.1 a with h | h
  .exact zas h dC
  exact key _ h
 exact key _ a
def PS {d:Nat} (h:d<16):nU d≠10:=by
 have key: ∀d:Fin 16,nU d.val≠10:=dC;exact key ⟨d,h⟩
def YB (c:UInt8): ∀x∈jc c,x≠10:=by
 have key: ∀i:Fin 256,∀x∈jc (UInt8.ofNat i.val),x≠10:=by decide+kernel
 have:=key ⟨c.toNat,c.toNat_lt⟩;simpa using this
def ae4 {x:bH} (h:eX x=true): ∀c∈iE x,c≠10:=by
 obtain⟨k,n,s⟩:=x;unfold eX at h;unfold iE;dsimp only at h |-
 by_cases f:k=1
 .rw[zac f]
  intro c a
  rcases zax.1 a with rfl | a
  .decide
  exact ME n c a
 rw[zab f]at h |-
 by_cases g:k=2
 .rw[zac g];exact ME n
 rw[zab g]at h |-
 by_cases i:k=3
 .rw[zac i]
  split<;>decide
 rw[zab i]at h |-
 by_cases j:k=4
 .rw[zac j,BS]
  intro c a
  rcases zax.1 a with rfl | a
  .decide
  rcases zbh.1 a with a | a
  .obtain⟨y,_,d⟩:=zcc.1 a
   exact YB y c d
  simp only[zaw]at a;subst a;decide
 rw[zab j]at h |-
 by_cases m:k=5
 .rw[zac m]
  intro c a
  rcases zax.1 a with rfl | a
  .decide
  obtain⟨y,_,d⟩:=zcc.1 a;simp only[zax,zal,or_false]at d
  rcases d with rfl | rfl
  .exact PS (by have:=y.toNat_lt;omega)
  exact PS oM
 rw[zab m]at h |-
 by_cases t:k=6
 .subst t
  rw[zac rfl]at h ⊢;simp only[decide_eq_true_eq]at h;obtain⟨_,H⟩:=h;have :n=1\/n=3\/n=4\/n=5:=by omega
  rcases this with rfl | rfl | rfl | rfl<;>decide
 rw[zab t]at h ⊢;simp only[decide_eq_true_eq]at h;obtain⟨u,z,_,_⟩:=h;have :k=7\/k=8\/k=9\/k=10\/k=11\/k=12\/k=13\/k=14\/k=15\/k=16\/k=17\/k=18:=by omega
 rcases this with rfl | rfl | rfl | rfl | rfl | rfl | rfl | rfl | rfl | rfl | rfl | rfl<;>decide
def VT: ∀{ws:List (L8)},(∀w∈ws,∀c∈w,c≠10)->∀c∈jo 32 ws,c≠10
 | [],_=>by intro c d;cases d
 | [w],h=>h w zak
 | w::x::l,h=>by
  intro c d;have d:c∈w++32::jo 32 (x::l):=d
  rcases zbh.1 d with a | a
  .exact h w zak c a
  rcases zax.1 a with rfl | a
  .decide
  exact VT (λy f=>h y (zap _ f)) c a
def bY (l:List bH):Prop:=∀x∈l,cB x.n
variable {l:List bH}
def MF (h:(jd l).2=0):l.length<=64/\(∀x∈l,eX x=true)/\jd l=(jo 32 (l.map iE),0):=by
 unfold jd at h |-
 split at h
 .cases h
 rename_i c
 split at h
 .cases h
 rename_i a;rw[zab c,zab a];rw[Bool.not_eq_false,zaz]at a;exact⟨oM,a,rfl⟩
def VU (h:(jd l).2=0): ∀c∈(jd l).1,c≠10:=by
 obtain⟨_,a,d⟩:=MF h;rw[d]
 exact VT λw f=>by
  obtain⟨x,g,rfl⟩:=zav.1 f;exact ae4 (a x g)
def PU (h:(jd l).2=0) (g:bY l):fE (jd l).1=(l,0):=by
 obtain⟨c,d,f⟩:=MF h;rw[f];exact(NU (λx a=>⟨d x a,g x a⟩) c).2.1
variable {s:L8}
def VW (h:fM s=true):(∀c∈s,c≠10)/\(∀c∈s,c≠32):=by
 unfold fM at h;simp only[zbr,zaz]at h;have key: ∀i:Fin 256,nR (UInt8.ofNat i.val)=true->UInt8.ofNat i.val≠10/\UInt8.ofNat i.val≠32:=by decide+kernel
 have k: ∀c:UInt8,nR c=true->c≠10/\c≠32:=λc a=>by
  have:=key ⟨c.toNat,c.toNat_lt⟩;simp only[UInt8.ofNat_toNat]at this;exact this a
 exact⟨λc a=>(k c (h.2 c a)).1,λc a=>(k c (h.2 c a)).2⟩
def zZ (b t:L8):u7 b (b++t)=some t:=by
 unfold u7;rw[List.take_left',zac rfl,List.drop_left']
 .rfl
 rfl
variable {b t:L8}
def VX (h:u7 b s=some t):s=b++t:=by
 unfold u7 at h
 split at h
 .rename_i a
  injection h with h
  rw[<-h]
  conv=>lhs;rw[<-zbs b.length s,a]
 cases h
def YC:(fE nA).2=4:=by rw[<-Px];decide+kernel
def YD (h:(jd l).2=0) (g:bY l):G5 (xK l)=some l:=by
 unfold G5 xK;rw[zZ,zeb]
 by_cases c:l=[]
 .rw[zac c,zab dC,zac rfl,c]
 rw[zab c];have a:=PU h g
 have d:(jd l).1≠[]:=λe=>by
  rw[e]at a;have :fE []=([],0):=rfl;rw[this]at a;injection a with a
  exact c a.symm
 have f:(jd l).1≠nA:=λe=>by
  rw[e]at a;have:=YC;rw[a]at this;cases this
 rw[zab d,zab f,a,zac rfl]
def VY (h: ∀c∈s,c≠32):zV (s++[32]++t)=some (s,t):=by
 have hi:(s++[32]++t).idxOf? 32=some s.length:=by
  rw[List.idxOf?,zbp,List.findIdx?_append]
  have :s.findIdx? (· ==32)=none:=by
   rw[zdc];intro c a;simpa using h c a
  rw[this];simp[zgj]
 unfold zV;rw[hi,zdk,zbp]
 congr 2
 .rw[List.take_left'];rfl
 rw[<-zbp];exact List.drop_left' sM
def ae5 {o:mF} (g:Mi o=false) (d:fM o.name=true) (i:bY o.steps):Mj (uf o)=some o:=by
 have a: ¬((jd o.steps).2≠0\/(jd o.steps).1=[]):=of_decide_eq_false g;have f:(jd o.steps).2=0:=Classical.byContradiction λh=>a (.inl h);have c:(jd o.steps).1≠[]:=λh=>a (.inr h);have j:=PU f i
 have m:o.steps≠[]:=λe=>by
  rw[e]at c;exact c rfl
 unfold Mj uf;have e:Yp++o.name++[32]++(jd o.steps).1=Yp++(o.name++[32]++(jd o.steps).1):=by simp only[zbp]
 rw[e,zZ,zeb,VY (VW d).2,zeb];dsimp only;rw[j,zac ⟨rfl,m,d⟩]
def YE {g:Int} (d: -1<=g) (f:g<=1048576):yB (yV g)=some g:=by
 unfold yB yV;rw[zZ,zeb]
 by_cases a:g<0
 .rw[zac a,zac rfl]
  congr 1
  omega
 rw[zab a];obtain⟨n,rfl⟩:=zfm (show 0<=g from oM);have h:itoa (n:Int)=decDigits n:=by unfold itoa;rw[zab a];rfl
 have c:itoa (n:Int)≠nA:=λe=>by
  rw[h]at e;have:=pR n 110 (by rw[e];decide);exact zas this dC
 rw[zab c,h];unfold pY;rw[xX,zeb,zac ⟨rfl,oM⟩];rfl
def YF (h:(fE t).2=0) (c:t≠[]):(fE t).1≠[]:=λe=>by
 have a:=ZR (s:=t) (l:=(fE t).1) (by rw[<-h]);rw[e]at a;injection a with a
 exact c a.symm
def PV: ∀{cs:List mF} {g:Int},(∀o∈cs,Mi o=false/\fM o.name=true/\bY o.steps)->lS (cs.map uf++[yV g])=cs
 | [],g,_=>by
  have :Mj (yV g)=none:=by
   unfold Mj u7;rw[zab]
   .rfl
   unfold yV Mg Yp;simp
  show lS [yV g]=[]
  unfold lS;rw[this]
 | o::cs,g,h=>by
  obtain⟨a,c,d⟩:=h o zak;rw[zbc,zcb];unfold lS;rw[ae5 a c d];dsimp only;rw[PV λx f=>h x (zap _ f)]
variable {p:aU}
def rG (h:lM p=true):(1<=p.cols.length/\p.cols.length<=16/\ -1<=p.group/\p.group<=p.cols.length)/\∀o∈p.cols,fM o.name=true:=by
 unfold lM at h;simp only[zbr,zaz,decide_eq_true_eq]at h;exact⟨h.1.1,λo a=>(h.1.2 o a).1⟩
def rH:Dx p=true↔lM p=true/\(jd p.wh).2=0/\∀o∈p.cols,Mi o=false:=by
 unfold Dx;simp only[zbr,zaz,decide_eq_true_eq,zdm,and_assoc]
def ace (h:Dx p=true): ∀w∈l8 p,∀c∈w,c≠10:=by
 obtain⟨i,j,m⟩:=rH.1 h;have y:=(rG i).2;have key: ∀{a b:L8},(∀c∈a,c≠10)->(∀c∈b,c≠10)->∀c∈a++b,c≠10:=λt f c u=>(zbh.1 u).elim (t c) (f c);intro w d;unfold l8 at d
 rcases zax.1 d with rfl | d
 .unfold xK
  refine key dC ?_
  split
  .decide
  exact VU j
 rcases zbh.1 d with d | d
 .obtain⟨o,g,rfl⟩:=zav.1 d
  have f: ¬((jd o.steps).2≠0\/(jd o.steps).1=[]):=of_decide_eq_false (m o g);unfold uf;exact key (key (key dC (VW (y o g)).1) dC) (VU (Classical.byContradiction λh=>f (.inl h)))
 rw[zaw.1 d];unfold yV;refine key dC ?_
 split
 .decide
 exact ME _
def acf (h:Dx p=true) (y:bY p.wh) (m: ∀o∈p.cols,bY o.steps) (z:(uz (l8 p)).length<=1048576):l9 (uz (l8 p))=(p,0,0):=by
 obtain⟨g,i,j⟩:=rH.1 h;obtain⟨⟨H,A,n,C⟩,u⟩:=rG g;have f:(l8 p).length=p.cols.length+2:=by unfold l8;simp
 have a:lS (((l8 p).take (l8 p).length).drop 1)=p.cols:=by
  rw[zbo];exact PV λo c=>⟨j o c,u o c,m o c⟩
 have t:(l8 p).getD (1+p.cols.length) []=yV p.group:=by
  unfold l8;rw[zao,zgn,zcy,zbx sM];simp
 unfold l9;rw[zab oM,Oz (ace h)];dsimp only;rw[zac rfl,zab oM];have d:(l8 p).getD 0 []=xK p.wh:=rfl;rw[d,YD i y];dsimp only;rw[a,zab oM,t,YE n oM];dsimp only;rw[zab oM,zab (by show ¬Dx p=false;rw[h];decide)]
def Kl (a:UInt8): ∀s:L8,(dK a s).length=s.count a+1
 | []=>rfl
 | c::l=>by
  have i:=Kl a l;unfold dK
  split
  .rename_i h;subst h;simp[i]
  rename_i h
  split
  .rename_i w ws d
   rw[d]at i;rw[List.count_cons_of_ne Iy];simpa using i
  rename_i d;rw[d]at i;simp at i
def En (c:aF):Prop:=cB c.n/\c.s.length<=1024
def Fw:En cell0:=⟨⟨dC,dC⟩,dC⟩
variable {r:List aF}
def acg {cols:List bF} (g:mO r) (i:bY l):En (j6 cols l r).1:=by
 unfold j6
 split
 .exact Fw
 rename_i h
 split
 .exact Fw
 rename_i d;cases hr:tV cols r [] l with
 | none=>exact Fw
 | some s=>
  have a: ∃t,runT cols [] l=some [t]:=by
   unfold gH at h
   split at h
   .exact zas (show(5:Int)≠0 from dC) h
   split at h
   .rename_i t a;exact⟨t,a⟩
   exact zas (show(220:Int)≠0 from dC) h
  obtain⟨t,a⟩:=a;have f:=Py (Decidable.of_not_not d) g i Typed.nil a hr;show En (s.getD 0 cell0)
  cases hs:s[0]? with
  | none=>rw[zao,hs];exact Fw
  | some c=>
   rw[zao,hs];have:=f.2 0 t c rfl hs;exact⟨this.2,Oj this.1⟩
def PW {cols:List bF} (g:mO r): ∀{l:List mF},(∀o∈l,bY o.steps)->(∀c∈(fq cols r l).1,En c)/\((fq cols r l).2=0->(fq cols r l).1.length=l.length)
 | [],_=>⟨λc a=>zas a zal,λ_=>rfl⟩
 | o::l,h=>by
  obtain⟨j,m⟩:=PW g (l:=l) λo i=>h o (zap _ i);rw[fq]
  split
  .rename_i f;exact⟨λc a=>zas a zal,λd=>zas d f⟩
  split
  .rename_i f;exact⟨λc a=>zas a zal,λd=>zas d f⟩
  rename_i f d;refine⟨λc a=>?_,λ_=>?_⟩
  .rcases zax.1 a with rfl | a
   .exact acg g (h o zak)
   exact j c a
  show _+1=_+1
  rw[m (Decidable.of_not_not d)]
def Bu (n:Nat) (x:aH):Prop:=cB x.w/\x.row.length=n/\∀c∈x.row,En c
def ae6 {cols:List bF} {p:aU} (d:mO r) (f: ∀o∈p.cols,bY o.steps):(∀c∈(gI cols p r).1,En c)/\((gI cols p r).2.1=true->(gI cols p r).1.length=p.cols.length):=by
 obtain⟨i,g⟩:=PW (cols:=cols) d f;unfold gI
 split
 .exact⟨λc a=>zas a zal,λh=>Bool.noConfusion h⟩
 split
 .exact⟨λc a=>zas a zal,λh=>Bool.noConfusion h⟩
 split
 .exact⟨λc a=>zas a zal,λh=>Bool.noConfusion h⟩
 rename_i h;exact⟨i,λ_=>g (Decidable.of_not_not h)⟩
def dQ (x:aH):Prop:=cB x.w/\mO x.row
def y5 {cols:List bF} {p:aU} (c: ∀o∈p.cols,bY o.steps): ∀{l:List aH},(∀x∈l,dQ x)->∀x∈(bL cols p l).1,Bu p.cols.length x
 | [],_,x,a=>zas a zal
 | y::l,h,x,a=>by
  have i:=y5 (cols:=cols) c (l:=l) λz j=>h z (zap _ j);obtain⟨d,f⟩:=h y zak;obtain⟨m,t⟩:=ae6 (cols:=cols) (p:=p) f c;rw[bL]at a
  split at a
  .exact zas a zal
  split at a
  .exact zas a zal
  split at a
  .rename_i g
   rcases zax.1 a with rfl | a
   .exact⟨d,t g,m⟩
   exact i x a
  exact i x a
def mP {cols:List bF} {p:aU}: ∀l:List aH,(bL cols p l).1.length<=l.length
 | []=>zbk _
 | y::l=>by
  have i:=mP (cols:=cols) (p:=p) l;rw[bL]
  split
  .exact zai _
  split
  .exact zai _
  split
  .simp only[zat];omega
  simp only[zat];omega


def jZ (s:L8):L8×L8:=(zV s).getD (s,[])
def vg {s:L8} (h:zV s=none):jZ s=(s,[]):=by unfold jZ;rw[h];rfl
def z8 {a:L8} (h:zV s=some (a,b)):jZ s=(a,b):=by unfold jZ;rw[h];rfl
def Bv:L8:=[119,104,101,114,101]
def OB:L8:=[111,117,116]
def Bw:L8:=[103,114,111,117,112]
def oh (t:L8):Option (List bH):=if(fE t).2=0/\(fE t).1≠[]then some (fE t).1 else none
def YG (s:L8):Option mF:=if(jZ s).1=OB/\fM (jZ (jZ s).2).1=true then(oh (jZ (jZ s).2).2).map λl=>⟨(jZ (jZ s).2).1,l⟩else none
def qI (t:L8):Option Int:=if t=nA then some (-1)else(pY t).map λn:Nat=>((n:Nat):Int)
def j3 (p:aU) (st:Int) (s:L8):Option (aU×Int):=
 if st=0 then(if(jZ s).1=Bv then(if(jZ s).2=nA then some (p,1)else(oh (jZ s).2).map λl=>(⟨l,p.cols,p.group⟩,1))else none)
 else if st=2/\(jZ s).1=Bw then(qI (jZ s).2).map λg=>(⟨p.wh,p.cols,g⟩,3)
 else if st=1\/st=2 then(YG s).map λo=>(⟨p.wh,p.cols++[o],p.group⟩,2)
 else none
def goG (p:aU) (st:Int):List (L8)->Option (aU×Int)×Nat
 | []=>(some (p,st),0)
 | x::l=>match j3 p st x with
  | none=>(none,0)
  | some (p',st')=>((goG p' st' l).1,(goG p' st' l).2+1)
def vB (l:List (L8)):Option (aU×Int):=l.foldl (λo x=>o.bind λr=>j3 r.1 r.2 x) (some (ny,0))
def MG (l:List (L8)) (x:L8):vB (l++[x])=(vB l).bind λr=>j3 r.1 r.2 x:=by
 unfold vB;rw[List.foldl_append];rfl
def G9: ∀(l m:List (L8)) (p:aU) (s:Int) (q:aU) (t:Int),goG p s l=(some (q,t),l.length)->goG p s (l++m)=((goG q t m).1,(goG q t m).2+l.length)
 | [],m,p,s,q,t,h=>by
  unfold goG at h;injection h with h _
  injection h with h
  injection h with a c
  subst a;subst c;rfl
 | x::l,m,p,s,q,t,h=>by
  rw[zcb];rw[goG]at h ⊢;cases hl:j3 p s x with
  | none=>rw[hl]at h;injection h with h;cases h
  | some r=>
   obtain⟨f,d⟩:=r;rw[hl]at h;dsimp only at h ⊢;injection h with a c
   rw[zat]at c;rw[G9 l m f d q t (Prod.ext a dO),zat];exact Prod.ext rfl dO
def aaE {α:Type} {l:List α} (h:l≠[]): ∃m x,l=m++[x]:=⟨l.dropLast,l.getLast h,(List.dropLast_concat_getLast h).symm⟩
def run_go: ∀(l:List (L8)) {q:aU} {t:Int},vB l=some (q,t)->goG ny 0 l=(some (q,t),l.length):=by
 intro l
 have key: ∀n (l:List (L8)),l.length=n->∀{q:aU} {t:Int},vB l=some (q,t)->goG ny 0 l=(some (q,t),l.length):=by
  intro n
  induction n with
  | zero=>
   intro l a q t h;have:=zbf a;subst this;injection h with h
   injection h with d c
   subst d;subst c;rfl
  | succ n i=>
   intro l a q t h;obtain⟨m,x,rfl⟩: ∃m x,l=m++[x]:=aaE (by intro e;rw[e]at a;cases a);rw[MG]at h;obtain⟨⟨p,f⟩,d,c⟩:=zdt.1 h;rw[G9 m [x] ny 0 p f (i m (by rw[zad,zaf]at a;omega) d)];dsimp only at c;unfold goG;rw[c];dsimp only;unfold goG;rw[zad,zaf];exact Prod.ext rfl dO
 exact λ{q t} h=>key l.length l rfl h
def ae7 {a:L8} (h:zV s=some (a,b)):s=a++[32]++b:=by
 unfold zV at h;obtain⟨i,hi,h⟩:=zbb.1 h;injection h with f g
 subst f;subst g;rw[List.idxOf?,zcr]at hi;obtain⟨d,c,_⟩:=hi;have e:s[i]=32:=by simpa using c
 conv=>lhs;rw[<-zbs i s,zbn d,e]
 simp
def ae8 (h:zV s=none): ∀c∈s,c≠32:=by
 unfold zV at h;rw[zfp,List.idxOf?,zdc]at h;intro c a e;have:=h c a;rw[e]at this;simp at this
def Ja {w:L8} (f: ∀c∈w,c≠32):u7 (w++[32]) s=(zV s).bind λx=>if x.1=w then some x.2 else none:=by
 cases h:zV s with
 | none=>
  cases ha:u7 (w++[32]) s with
  | none=>rfl
  | some t=>
   have:=VX ha;exact zas rfl (ae8 h 32 (by rw[this];simp))
 | some x=>
  obtain⟨a,b⟩:=x;show _=if a=w then some b else none
  by_cases e:a=w
  .rw[zac e,ae7 h,e,zZ]
  rw[zab e];cases ha:u7 (w++[32]) s with
  | none=>rfl
  | some t=>
   have d:=VX ha;rw[d,VY f]at h;injection h with h
   injection h with h _
   exact zas h.symm e
def ach:fE []=([],0):=by rw[<-Px];decide+kernel
def CW:oh []=none:=by unfold oh;rw[ach];simp
def MH:([]:L8)≠nA:=by unfold nA;simp
def YH (h:p.wh=[]):j3 p 0 s=(G5 s).map λl=>(⟨l,p.cols,p.group⟩,1):=by
 have e:R5=Bv++[32]:=rfl;unfold j3 G5;rw[zac rfl,e,Ja dC];cases hc:zV s with
 | none=>
  rw[vg hc];show(if s=Bv then(if([]:L8)=nA then _ else _)else none)=_
  rw[zab MH,CW]
  split<;>rfl
 | some x=>
  obtain⟨a,b⟩:=x;rw[z8 hc];dsimp only;show(if a=Bv then(if b=nA then _ else _)else none)=Option.map _ (((if a=Bv then some b else none)).bind _)
  by_cases d:a=Bv
  .rw[zac d,zac d]
   show _=Option.map _ (if b=[]then none else if b=nA then some []else if(fE b).2=0 then some (fE b).1 else none)
   by_cases f:b=[]
   .rw[zac f,f,zab MH,CW,Option.map_none]
   rw[zab f]
   by_cases g:b=nA
   .rw[zac g,zac g]
    show some (p,(1:Int))=some (⟨[],p.cols,p.group⟩,1)
    rw[<-h]
   rw[zab g,zab g];unfold oh
   by_cases c:(fE b).2=0
   .rw[zac c,zac ⟨c,YF c f⟩]
   rw[zab c,zab λh=>c h.1,Option.map_none]
  rw[zab d,zab d];rfl
def R9 (s:L8):YG s=Mj s:=by
 have e:Yp=OB++[32]:=rfl;unfold YG Mj;rw[e,Ja dC];cases hc:zV s with
 | none=>
  rw[vg hc];dsimp only;rw[vg (s:=[]) rfl];dsimp only;rw[CW];show(if s=OB/\fM []=true then none else none)=none
  split<;>rfl
 | some x=>
  obtain⟨a,b⟩:=x;rw[z8 hc];dsimp only;show _=((if a=OB then some b else none)).bind _
  by_cases d:a=OB
  .rw[zac d]
   show _=(zV b).bind _
   cases hb:zV b with
   | none=>
    rw[vg hb];dsimp only;rw[CW];show(if a=OB/\fM b=true then none else none)=none
    split<;>rfl
   | some y=>
    obtain⟨n,t⟩:=y;rw[z8 hb];show(if a=OB/\fM n=true then Option.map _ (oh t)else none)=if(fE t).2=0/\(fE t).1≠[]/\fM n=true then some (⟨n,(fE t).1⟩:mF)else none
    unfold oh
    by_cases f:fM n=true
    .rw[zac ⟨d,f⟩]
     by_cases c:(fE t).2=0/\(fE t).1≠[]
     .rw[zac c,zac ⟨c.1,c.2,f⟩];rfl
     rw[zab c,zab λh=>c ⟨h.1,h.2.1⟩];rfl
    rw[zab λh=>f h.2,zab λh=>f h.2.2]
  rw[zab λh=>d h.1,zab d];rfl
def aci:qI []=none:=by
 unfold qI pY;rw[zab MH];have :decDigits 0≠([]:L8):=qX 0;show Option.map _ (if decDigits 0=[]/\_ then _ else none)=none
 rw[zab λh=>this h.1];rfl
def acj (s:L8):(if(jZ s).1=Bw then qI (jZ s).2 else none)=yB s:=by
 have e:Mg=Bw++[32]:=rfl;unfold yB;rw[e,Ja dC];cases hc:zV s with
 | none=>
  rw[vg hc];dsimp only;rw[aci];show(if s=Bw then none else none)=none
  split<;>rfl
 | some x=>
  obtain⟨a,b⟩:=x;rw[z8 hc];show(if a=Bw then qI b else none)=((if a=Bw then some b else none)).bind _
  by_cases h:a=Bw
  .rw[zac h,zac h];rfl
  rw[zab h,zab h];rfl
variable {st:Int}
def ae9 {o:mF} (a:st=1\/st=2) (h:Mj s=some o):j3 p st s=some (⟨p.wh,p.cols++[o],p.group⟩,2):=by
 have f:=h;rw[<-R9]at h
 have d:(jZ s).1=OB:=by
  unfold YG at h
  split at h
  .rename_i e;exact e.1
  cases h
 unfold j3;rw[zab oM,zab (λc=>zas (d.symm.trans c.2) dC),zac a,h];rfl
def YI (h:Mj s=none):j3 p 1 s=none:=by
 unfold j3;rw[zab dC,zab (λh=>zas h.1 dC),zac (.inl rfl),R9,h];rfl
def acn (h:Mj s=none):j3 p 2 s=(yB s).map λg=>(⟨p.wh,p.cols,g⟩,3):=by
 unfold j3;rw[zab dC,<-acj]
 by_cases e:(jZ s).1=Bw
 .rw[zac ⟨rfl,e⟩,zac e]
 rw[zab λh=>e h.2,zac (.inr rfl),R9,h,zab e];rfl
def aco:j3 p 3 s=none:=by
 unfold j3;rw[zab dC,zab (λh=>zas h.1 dC),zab dC]
def aaF: ∀(l:List (L8)) (p:aU) (s:Int),s=1\/s=2->goG p s l=
    if l.length<=(lS l).length then(some (⟨p.wh,p.cols++lS l,p.group⟩,if(lS l).length=0 then s else 2),(lS l).length)
    else if s=1/\(lS l).length=0 then(none,0)
    else match yB (l.getD (lS l).length [])with
      | none=>(none,(lS l).length)
      | some g=>if l.length=(lS l).length+1 then(some (⟨p.wh,p.cols++lS l,g⟩,3),(lS l).length+1)else(none,(lS l).length+1)
  | [],p,s,_=>by
    unfold goG lS;simp
  | x::l,p,s,hst=>by
    cases ho:Mj x with
    | some o=>
      have h:lS (x::l)=o::lS l:=by rw[lS,ho]
      rw[goG,ae9 hst ho,h];dsimp only;rw[aaF l _ 2 (.inr rfl)];simp only[zat,Nat.add_le_add_iff_right,zge,Nat.add_right_cancel_iff];rw[zab (show ¬((lS l).length+1=0)from oM),zab (show ¬(s=1/\(lS l).length+1=0)from oM),zab (show ¬((2:Int)=1/\(lS l).length=0)from oM)]
      split
      . simp
      cases yB (l.getD (lS l).length [])with
      | none=>rfl
      | some g=>dsimp only;split<;>simp
    | none=>
      have h:lS (x::l)=[]:=by rw[lS,ho]
      rw[goG,h];simp only[zat,zci,zfk];rw[zab oM]
      rcases hst with rfl | rfl
      . rw[YI ho,zac sM]
      rw[acn ho,zab dC];cases yB x with
      | none=>rfl
      | some g=>
        show((goG _ 3 l).1,(goG _ 3 l).2+1)=if l.length+1=0+1 then _ else _
        cases l with
        | nil=>simp[goG]
        | cons y l=>rw[goG,aco,zab sM]
def MI (D:s.length<=1048576):l9 s=match goG ny 0 (if(jE s).2=true then(jE s).1 else(jE s).1.dropLast)with
    | (none,n)=>(ny,(n:Int),4)
    | (some r,n)=>if(jE s).2=false\/r.2≠3 then(ny,(n:Int),4)else if Dx r.1=false then(ny,0,2)else(r.1,0,0):=by
  obtain⟨a,whole,C⟩: ∃a whole,jE s=(a,whole):=⟨_,_,rfl⟩;have j:a.dropLast=a.take (a.length-1):=List.dropLast_eq_take;unfold l9;rw[zab oM,C];dsimp only;obtain⟨many,d⟩: ∃many,many=if whole=true then a.length else a.length-1:=⟨_,rfl⟩
  have c:many<=a.length:=by rw[d];split<;>omega
  have y:(if whole=true then a else a.dropLast)=a.take many:=by
    rw[d]
    split
    . rw[zbo]
    exact j
  rw[<-d,y]
  by_cases z:many<1
  . rw[zac z,show many=0 from oM,zdl]
    unfold goG;dsimp only;rw[zac (.inr dC)];rfl
  rw[zab z];cases a with
  | nil=>simp at c;omega
  | cons x l=>
    obtain⟨m,rfl⟩: ∃m,many=m+1:=⟨many-1,oM⟩;rw[zdd,zfk,goG,YH rfl,List.drop_one,List.tail_cons];cases hw:G5 x with
    | none=>rfl
    | some w=>
      dsimp only[Option.map];rw[aaF _ _ 1 (.inl rfl)];have u:(l.take m).length=m:=by rw[zah];rw[zat]at c;omega
      obtain⟨cs,i⟩: ∃cs,cs=lS (l.take m):=⟨_,rfl⟩;rw[<-i,u]
      by_cases H:m<=cs.length
      . rw[zac H,zac (.inl oM)]
        dsimp only;rw[zac (.inr (by split<;>decide)),zgn]
      rw[zab H]
      by_cases f:cs.length=0
      . rw[zac (.inr f),zac ⟨rfl,f⟩,f]
      rw[zab oM,zab (λh=>f h.2)]
      have t:(x::l).getD (1+cs.length) []=(l.take m).getD cs.length []:=by
        rw[zgn,zge,zao,zao,zcq,zac oM]
      rw[t];cases yB ((l.take m).getD cs.length [])with
      | none=>dsimp only;rw[zgn]
      | some g=>
        dsimp only
        by_cases A:m=cs.length+1
        . rw[zac A]
          dsimp only;show(if 1+cs.length+1<l.length+1 then _ else _)=if whole=false\/¬((3:Int)=3)then _ else _
          cases whole with
          | true=>
            rw[zac rfl,zat]at d;rw[zab oM,zab (show ¬(true=false\/¬(3:Int)=3)from sM)];rfl
          | false=>
            rw[zab dC,zat]at d;rw[zac oM,zac (.inl rfl),zgn 1]
        rw[zab A];dsimp only;rw[zac (by rw[zat];rw[zat]at c;omega),zgn 1]
def YJ (c:s.length<=1048576) (a:(jE s).2=true) (h:vB (jE s).1=some (p,st)):
    l9 s=if st≠3 then(ny,((jE s).1.length:Int),4)else if Dx p=false then(ny,0,2)else(p,0,0):=by
  rw[MI c,zac a,run_go _ h];dsimp only;rw[a]
  by_cases e:st=3
  . rw[zab (show ¬(true=false\/st≠3) by simp[e]),zab (show ¬st≠3 from λh=>h e)]
  rw[zac (.inr e),zac e]
variable {x:L8}
def YK {pre l:List (L8)} (c:s.length<=1048576) (a:(if(jE s).2=true then(jE s).1 else(jE s).1.dropLast)=pre++x::l) (h:vB pre=some (p,st)) (d:j3 p st x=none):
    l9 s=(ny,(pre.length:Int),4):=by
  rw[MI c,a,G9 pre _ _ _ _ _ (run_go _ h),goG,d];dsimp only;rw[zde]
def YL (a:s.length<=1048576) (c:(jE s).2=false) (h:vB (jE s).1.dropLast=some (p,st)):
    l9 s=(ny,((jE s).1.dropLast.length:Int),4):=by
  rw[MI a,c,zab dC,run_go _ h];dsimp only;rw[zac (.inl rfl)]
variable {n:Int}
def sH:(atoiAll t=.ok n/\0<=n/\itoa n=t/\n<=1048576)↔(pY t).map (λn:Nat=>((n:Nat):Int))=some n:=by
 constructor
 .rintro⟨_,j,a,u⟩
  unfold itoa at a;rw[zab oM]at a;unfold pY;rw[<-a,xX];show Option.map _ (if decDigits n.toNat=decDigits n.toNat/\n.toNat<=1048576 then some n.toNat else none)=_
  rw[zac ⟨rfl,oM⟩];show some ((n.toNat:Nat):Int)=some n
  rw[zcv j]
 intro h;obtain⟨m,a,rfl⟩:=zbb.1 h;unfold pY at a;obtain⟨k,y,a⟩:=zdt.1 a
 split at a
 .rename_i e
  injection a with a
  subst a;refine⟨?_,oM,by unfold itoa;rw[zab oM,zdv];exact e.1,oM⟩;rw[<-e.1];have f:=qX k;have d:=pR k;cases hd:decDigits k with
  | nil=>exact zas hd f
  | cons c r=>
   have g:=d c (by rw[hd];simp);unfold uh at g;simp only[decide_eq_true_eq,zbr]at g
   have i:parseMag (decDigits k)=.ok k:=by
    rw[parseMag,zab f,AP _ 0 k (xX k) oM]
   rw[hd]at i;unfold atoiAll;dsimp only;rw[zab oM,i];dsimp only;rw[zab oM,zab oM,zab oM]
 cases a
def mG (l:L8):L8:=l++[10]
def VZ {a:L8} (h:mG a=mG b):a=b:=List.append_cancel_right h
def Fx: ∀{a b:List (L8)},a.map mG=b.map mG->a=b
 | [],[],_=>rfl
 | [],b::l,h=>by cases h
 | a::l,[],h=>by cases h
 | a::l,b::m,h=>by
  injection h with c d
  rw[VZ c,Fx d]
def sI (s:L8):List (L8):=(dK 10 s).dropLast.map mG++(if(dK 10 s).getLast?=some []then []else [(dK 10 s).getLastD []])
def PX (s:L8):List (L8):=if(jE s).2=true then(jE s).1 else(jE s).1.dropLast
def Wh:sI []=[]:=rfl
def Ta {l:L8} (h:Lib.indexByte l 10= -1):dK 10 l=[l]:=
 EG λc a e=>by
  obtain⟨k,d⟩:=zdf a;exact Lib.indexByte_none h k (by rw[d,e])
def Fy {l:L8} {o:Nat} (h:Lib.indexByte l 10=o):o<l.length/\l.take (o+1)=mG (l.take o)/\dK 10 l=l.take o::dK 10 (l.drop (o+1)):=by
 obtain⟨d,i⟩:=Lib.indexByte_some h;have a:=(zba.1 d).1
 have e:l=l.take o++10::l.drop (o+1):=by
  have g:l.drop o=10::l.drop (o+1):=by
   rw[zbn a]
   congr 1
   rw[zaa a]at d;injection d
  conv=>lhs;rw[<-zbs o l,g]
 refine⟨a,by rw[zaq,d];rfl,?_⟩
 have:=JM (sep:=10) (w:=l.take o) (l:=l.drop (o+1)) λc j e=>by
  obtain⟨k,f⟩:=zdf j;rw[zcq]at f
  split at f
  .exact i k oM (by rw[f,e])
  cases f
 rw[<-this,<-e]
def acp {l:L8} (h:Lib.indexByte l 10= -1) (a:l≠[]):sI l=[l]:=by
 unfold sI;rw[Ta h];simp[a]
def acr {l:L8} {o:Nat} (h:Lib.indexByte l 10=o):sI l=l.take (o+1)::sI (l.drop (o+1)):=by
 obtain⟨_,d,f⟩:=Fy h;have c:=G8 (l.drop (o+1));unfold sI;rw[f,d];cases hs:dK 10 (l.drop (o+1))with
 | nil=>exact zas hs c
 | cons a r=>
  rw[List.dropLast_cons_of_ne_nil sM];simp
def YM {s:L8}: ∀w∈dK 10 s,∀c∈w,c≠10:=by
 induction s with
 | nil=>intro w h c a;simp[dK]at h;subst h;cases a
 | cons x l i=>
  intro w h c a
  by_cases d:x=10
  .rw[dK,zac d]at h
   rcases zax.1 h with rfl | h
   .cases a
   exact i w h c a
  obtain⟨g,ws,e,f⟩:=qg (sep:=10) (l:=l) d;rw[f]at h;rw[e]at i
  rcases zax.1 h with rfl | h
  .rcases zax.1 a with rfl | a
   .exact d
   exact i g sM c a
  exact i w (zap _ h) c a
def Wi (s:L8): ∃T,sI s=(PX s).map mG++T/\((T=[]/\(jE s).2=true)\/(∃x,T=[x]/\(jE s).2=false/\∀c∈x,c≠10)):=by
 have a:=G8 s;unfold sI PX jE
 by_cases h:(dK 10 s).getLast?=some []
 .rw[zac h,zac h]
  exact⟨[],sM,.inl ⟨rfl,rfl⟩⟩
 rw[zab h,zab h];refine⟨[(dK 10 s).getLastD []],sM,.inr ⟨_,rfl,rfl,?_⟩⟩;refine YM (s:=s) _ ?_;rw[List.getLastD_eq_getLast?,List.getLast?_eq_some_getLast a];exact List.getLast_mem a
def YN (h:ls.map mG++[x]<+:sI s):(∃l rest,x=mG l/\PX s=ls++l::rest)\/((jE s).2=false/\ls=PX s/\∀c∈x,c≠10):=by
 obtain⟨T,D,H⟩:=Wi s;obtain⟨t,A⟩:=h;rw[D,zbp,List.singleton_append]at A
 rcases List.append_eq_append_iff.1 A with⟨a,f,d⟩ | ⟨c,f,d⟩
 .obtain⟨E,m,e,C,u⟩:=List.map_eq_append_iff.1 f
  have g:=Fx C;subst g;cases m with
  | nil=>
   subst u;rw[zcn,zby]at d
   rcases H with⟨rfl,_⟩ | ⟨y,rfl,i,j⟩
   .cases d
   injection d with d _
   subst d;rw[zbt]at e;exact .inr ⟨i,e.symm,j⟩
  | cons l m=>
   subst u;injection d with d _
   exact .inl ⟨l,m,d,e⟩
 rcases H with⟨rfl,_⟩ | ⟨y,rfl,i,j⟩
 .cases c<;>cases d
 cases c with
 | nil=>
  rw[zbt]at f;injection d with d _
  subst d;exact .inr ⟨i,Fx f,j⟩
 | cons z c=>injection d with _ d;cases c<;>cases d
def ahx (h:sI s=ls.map mG):(jE s).2=true/\(jE s).1=ls:=by
 obtain⟨T,f,g⟩:=Wi s;rw[f]at h
 rcases g with⟨rfl,c⟩ | ⟨y,rfl,c,i⟩
 .rw[zbt]at h
  have:=Fx h;unfold PX at this;rw[zac c]at this;exact⟨c,this⟩
 obtain⟨m,d,e,j,a⟩:=List.map_eq_append_iff.1 h.symm;cases d with
 | nil=>cases a
 | cons l d=>
  injection a with a _
  exact zas rfl (i 10 (by rw[<-a];unfold mG;simp))
def Km (s:L8): ∀w∈dK 10 s,w.length<=s.length:=by
  induction s with
  | nil=>
   intro w h;have :w=[]:=by simpa[dK]using h
   rw[this];simp
  | cons c l i=>
    intro w h
    by_cases a:c=10
    . rw[dK,zac a]at h
      rcases zax.1 h with rfl | h
      . simp
      have:=i w h;simp only[zat];omega
    obtain⟨f,ws,e,d⟩:=qg (sep:=10) (l:=l) a;rw[d]at h;rw[e]at i
    rcases zax.1 h with rfl | h
    . have:=i f sM
      simp only[zat];omega
    have:=i w (zap _ h);simp only[zat];omega
def ahy (h:x∈sI s):x.length<=s.length+1:=by
 unfold sI at h
 rcases zbh.1 h with h | h
 .obtain⟨y,c,rfl⟩:=zav.1 h
  have:=Km s y ((List.dropLast_sublist _).subset c);unfold mG;rw[zad,zaf];omega
 split at h
 .cases h
 rw[zaw]at h;subst h;have a:=G8 s;have:=Km s _ (List.getLast_mem a);rw[List.getLastD_eq_getLast?,List.getLast?_eq_some_getLast a];show((dK 10 s).getLast a).length<=_
 omega
def afa (s:L8):(sI s).length<=s.length+1:=by
 have a:=Kl 10 s;have c:s.count 10<=s.length:=List.count_le_length;have h:0<(dK 10 s).length:=oM;unfold sI;rw[zad,zae,List.length_dropLast]
 split<;>simp only[zci,zat]<;>omega
def ahz {J:List (L8)->aU->Int->Prop} (j:J [] ny 0) (u: ∀m x p t d f,J m p t->j3 p t x=some (d,f)->J (m++[x]) d f): ∀(a:List (L8)) {p:aU} {s:Int},vB a=some (p,s)->J a p s:=by
 intro a
 have key: ∀n (a:List (L8)),a.length=n->∀{p:aU} {s:Int},vB a=some (p,s)->J a p s:=by
  intro n
  induction n with
  | zero=>
   intro l c p s h;have:=zbf c;subst this;injection h with h
   injection h with g i
   subst g;subst i;exact j
  | succ n y=>
   intro l c p s h;obtain⟨m,x,rfl⟩:=aaE (show l≠[] by intro e;rw[e]at c;cases c);rw[MG]at h;obtain⟨⟨d,f⟩,g,i⟩:=zdt.1 h;exact u m x d f p s (y m (by rw[zad,zaf]at c;omega) g) i
 exact λ{p s} h=>key a.length a rfl h
def YO {g:aU} {t i:Int} (h:j3 p t x=some (g,i)):(g.wh=p.wh\/∃y,g.wh=(fE y).1)/\(g.cols=p.cols\/∃n y,g.cols=p.cols++[⟨n,(fE y).1⟩])/\(i=1\/i=2\/i=3):=by
 unfold j3 at h
 split at h
 .split at h
  .split at h
   .injection h with h;injection h with e a;subst e;subst a;exact⟨.inl rfl,.inl rfl,.inl rfl⟩
   obtain⟨y,f,h⟩:=zbb.1 h;unfold oh at f
   split at f
   .injection f with f
    injection h with e a;subst e;subst a;exact⟨.inr ⟨_,f.symm⟩,.inl rfl,.inl rfl⟩
   cases f
  cases h
 split at h
 .obtain⟨y,_,h⟩:=zbb.1 h
  injection h with e a;subst e;subst a;exact⟨.inl rfl,.inl rfl,.inr (.inr rfl)⟩
 split at h
 .obtain⟨o,d,h⟩:=zbb.1 h
  unfold YG at d
  split at d
  .obtain⟨l,c,d⟩:=zbb.1 d
   unfold oh at c
   split at c
   .injection c with c
    subst c;subst d;injection h with e a;subst e;subst a;exact⟨.inl rfl,.inr ⟨_,_,rfl⟩,.inr (.inl rfl)⟩
   cases c
  cases d
 cases h
def mQ (p:aU):Prop:=bY p.wh/\∀o∈p.cols,bY o.steps
def Wj (l:List (L8)) (h:vB l=some (p,st)):p.cols.length<=l.length/\(st=0\/st=1\/st=2\/st=3)/\mQ p:=by
 refine ahz (J:=λl p st=>p.cols.length<=l.length/\(st=0\/st=1\/st=2\/st=3)/\mQ p) ⟨zbk _,.inl rfl,(λx u=>zas u zal),λo a=>zas a zal⟩ (λm x p t C D i j=>?_) l h;obtain⟨H,A,g,d⟩:=i;obtain⟨f,c,z⟩:=YO j;rw[zad,zaf];refine⟨?_,oM,?_,λo a=>?_⟩
 .rcases c with e | ⟨n,y,e⟩
  .rw[e];omega
  rw[e,zad,zaf];omega
 .rcases f with e | ⟨y,e⟩
  .rw[e];exact g
  rw[e];exact Md y
 rcases c with e | ⟨n,y,e⟩
 .rw[e]at a;exact d o a
 rw[e]at a
 rcases zbh.1 a with a | a
 .exact d o a
 rw[zaw]at a;subst a;exact Md y
open Go.RowKit
def fA (X:Wd->Prop):HP where
 ok F w:=(∀w',w.heap.size<=w'.heap.size->(∀b,F b->w'.heap[b]? =w.heap[b]?)->X w')/\∀b,F b->b<w.heap.size
 loc hs h XL:=⟨λw' hs' h'=>XL.1 w' (zcl hs hs') λb hb=>(h' b hb).trans (h b hb),λb hb=>Nat.lt_of_lt_of_le (XL.2 b hb) hs⟩
 low h:=h.2
section
variable {F:NP} {w w' w0:Wd} {S:NP} {rs:List HP} {put:HP->List HP} {p q:HP} {X Y Z:Wd->Prop}
def HP.look (h:p.ok F w) (c: ∀F w,p.ok F w->X w):(fA X).ok F w:=⟨λw' d a=>c F w' (p.loc d a h),p.low h⟩
def sJ (h:(fA X).ok F w):X w:=h.1 w (zbk _) λ_ _=>rfl
def Sep.look (H:Sep w0 S rs w) (h:At rs p put) (c: ∀F w,p.ok F w->X w):Sep w0 S (put (fA X)) w:=H.imp h λ_ a=>HP.look a c
def Sep.dh (H:Sep w0 S rs w) (hat:At rs (fA X) put):X w:=by
 obtain⟨F,h,_,_⟩:=H.bG hat;exact sJ h
def Sep.jN (H:Sep w0 S (fA X::fA Y::rs) w) (d: ∀w,X w->Y w->Z w):Sep w0 S (fA Z::rs) w:=
 Sep.look H.aZ At0 λF w c=>by
  obtain⟨f,g,_,_,h,a⟩:=c;exact d w (sJ h) (sJ a)
def Sep.pU (H:Sep w0 S rs w) (h: ∀w,X w):Sep w0 S (fA X::rs) w:=
 Sep.look (Sep.jY (φ:=True) trivial H) At0 λ_ w _=>h w
def Sep.qJ (H:Sep w0 S rs w) (a:At rs (fA X) put) (h: ∀w,X w->Y w):Sep w0 S (put (fA Y)) w:=Sep.look H a λ_ _ c=>h _ (sJ c)
end
section
variable {F:NP} {w w' w0:Wd} {S:NP} {rs:List HP} {put:HP->List HP} {v x:Value} {e k:Nat} {α:Type} {enc:α->LV}
def nH [jl enc k] {l:List α} (h:(aY e k enc v l).ok F w):aP w v enc k l:=by
 have H:=Sep.dA h;obtain⟨A,c,rfl,a,hR⟩:=H.bX At0;exact⟨A,c,rfl,⟨a,Sep.aen H At0⟩,hR⟩
def gP [jl enc k] {l:List α} (H:Mw.Sep w0 S rs w) (hat:At rs (aY e k enc v l) put):aP w v enc k l:=by
 obtain⟨F,h,_,_⟩:=H.bG hat;exact nH h
def Eo {α:Type} (v:Value) (enc:α->LV) (k:Nat) (l:List α):HP:=fA λw=>aP w v enc k l
def dz [jl enc k] {l:List α} (H:Mw.Sep w0 S rs w) (a:At rs (aY e k enc v l) put):Mw.Sep w0 S (put (Eo v enc k l)) w:=Sep.look H a λ_ _ h=>nH h
def AX (r:List (L8×Value)) (l:List mF):HP:=fA λw=>qm w r l
def y7 (v:Value) (p:aU):HP:=fA λw=>fK w v p
variable {r:List (L8×Value)} {l:List mF} {s:List bH} {n:L8} {vw vc:Value} {p:aU}
def vC (H:Mw.Sep w0 S rs w):Mw.Sep w0 S (AX [] []::rs) w:=Sep.pU H λ_=>qm.nil
def sK (H:Mw.Sep w0 S (aY e 3 aQ x s::AX r l::rs) w):Mw.Sep w0 S (AX (r++[(n,x)]) (l++[⟨n,s⟩])::rs) w:=
 Sep.jN (dz H At0) λ_ h a=>a.push h
def Fz {g:Int} {cols:List mF} (H:Mw.Sep w0 S (Eo vw aQ 3 s::aY e 2 dV vc r::AX r cols::rs) w):Mw.Sep w0 S (y7 (agg [vw,vc,I g]) ⟨s,cols,g⟩::rs) w:=by
 have c:=(dz H At1).aJ.aR;have d:=Sep.jN (Z:=λw=>Mk w vc cols) c λ_ h a=>⟨r,a,h⟩;exact Sep.jN d λ_ h a=>⟨vw,vc,rfl,a,h⟩
end
variable {F S:NP} {w w' w0:Wd} {rs:List HP} {p q:HP}
def aD (x:Value×Int):LV:=[x.1,I x.2]
instance:jl aD 2:=⟨λ_=>rfl⟩
def gM (w:Wd) (r:List (Value×Int)) (l:List aH):Prop:=r.map (·.2)=l.map (·.w)/\∀(i:Nat) x o,r[i]? =some x->l[i]? =some o->aP w x.1 aj 3 o.row
def dM (w:Wd) (v:Value) (l:List aH):Prop:=∃r,aP w v aD 2 r/\gM w r l
variable {v:Value} {r r':List (Value×Int)} {l l':List aH}
def gM.len (h:gM w r l):r.length=l.length:=by
 have:=zay List.length h.1;simpa using this
def gM.aK (h:gM w r l) (a:aS noB w w'):gM w' r l:=⟨h.1,λi x o d c=>(h.2 i x o d c).aK a⟩
def dM.aK (h:dM w v l) (a:aS noB w w'):dM w' v l:=by
 obtain⟨r,c,d⟩:=h;exact⟨r,c.aK a,d.aK a⟩
def gM.nil:gM w [] []:=⟨rfl,λi x o h=>by simp at h⟩
def gM.app (h:gM w r l) (d:gM w r' l'):gM w (r++r') (l++l'):=by
 have f:=h.len;refine⟨by rw[zan,zan,h.1,d.1],λi y o c a=>?_⟩
 by_cases hi:i<r.length
 .rw[zce hi]at c
  rw[zce oM]at a;exact h.2 i y o c a
 rw[zbx oM]at c a;rw[<-f]at a;exact d.2 _ y o c a
def gM.one {x:Value} {o:aH} (c:aP w x aj 3 o.row):gM w [(x,o.w)] [o]:=by
 refine⟨rfl,λi y d h a=>?_⟩;cases i with
 | zero=>
  rw[zcx]at h a;injection h with h
  injection a with a
  subst h;subst a;exact c
 | succ j=>simp at h
def gM.push {x:Value} {o:aH} (h:gM w r l) (a:aP w x aj 3 o.row):gM w (r++[(x,o.w)]) (l++[o]):=h.app (.one a)
def gM.at (h:gM w r l) {i:Nat} (hi:i<l.length): ∃x,r[i]? =some (x,l[i].w)/\aP w x aj 3 l[i].row:=by
 have d:=h.len;have a:r[i]? =some r[i]:=zaa oM
 have c:r[i].2=l[i].w:=by
  have:=zay (λz=>z[i]?) h.1;simp only[zbw]at this;rw[a,zaa hi]at this;injection this
 exact⟨r[i].1,by rw[a,<-c],h.2 i _ _ a (zaa hi)⟩
def gM.get (h:gM w r l) {i:Nat} {o:aH} (a:l[i]? =some o): ∃x,r[i]? =some (x,o.w)/\aP w x aj 3 o.row:=by
 obtain⟨hi,e⟩:=zba.1 a;subst e;exact h.at hi
def gM.take (h:gM w r l) (n:Nat):gM w (r.take n) (l.take n):=⟨by rw[List.map_take,List.map_take,h.1],λi x o a c=>by
 rw[zcq]at a c
 split at a
 .rename_i hi;rw[zac hi]at c;exact h.2 i x o a c
 cases a⟩
def gM.drop (h:gM w r l) (n:Nat):gM w (r.drop n) (l.drop n):=⟨by rw[List.map_drop,List.map_drop,h.1],λi x o c a=>by
 rw[zco]at c a;exact h.2 _ x o c a⟩
section
variable {F:NP} {w w' w0:Wd} {S:NP} {rs:List HP} {put:HP->List HP} {v x:Value} {r:List (Value×Int)} {l:List aH} {o:aH}
def Bz (v:Value) (l:List aH):HP:=fA λw=>dM w v l
def MJ (r:List (Value×Int)) (l:List aH):HP:=fA λw=>gM w r l
def Jb (H:Mw.Sep w0 S rs w):Mw.Sep w0 S (MJ [] []::rs) w:=Sep.pU H λ_=>gM.nil
def Wm (H:Mw.Sep w0 S (Eo x aj 3 o.row::MJ r l::rs) w):Mw.Sep w0 S (MJ (r++[(x,o.w)]) (l++[o])::rs) w:=
 Sep.jN H λ_ h a=>a.push h
def rJ (H:Mw.Sep w0 S (aY 48 3 aj x o.row::MJ r l::rs) w):Mw.Sep w0 S (MJ (r++[(x,o.w)]) (l++[o])::rs) w:=Wm (dz H At0)
abbrev fH:=Value×aH
def aW (L:List fH):List (Value×Int):=L.map λb=>(b.1,b.2.w)
def dB (v:Value) (L:List fH):HP:=dx (aY 25 2 aD v (aW L)) (xg 48 3 aj (·.1) (λb=>b.2.row) L)
def vD: ∀{L:List fH} {F:NP} {w:Wd},(xg 48 3 aj (·.1) (λb:fH=>b.2.row) L).ok F w->gM w (aW L) (L.map (·.2))
 | [],_,_,_=>gM.nil
 | b::L,F,w,h=>by
  obtain⟨d,f,_,_,a,c⟩:=h;exact gM.app (gM.one (nH a)) (vD c)
def Jc {L:List fH} (h:(dB v L).ok F w):dM w v (L.map (·.2)):=by
 obtain⟨d,f,_,_,a,c⟩:=h;exact⟨_,nH a,vD c⟩
def OC {L:List fH} (H:Mw.Sep w0 S rs w) (a:At rs (dB v L) put):Mw.Sep w0 S (put (Bz v (L.map (·.2)))) w:=Sep.look H a λ_ _ h=>Jc h
def cZ {L:List fH} (H:Mw.Sep w0 S rs w) (h:At rs (dB v L) put):dM w v (L.map (·.2)):=by
 obtain⟨F,a,_,_⟩:=H.bG h;exact Jc a
def bU (H:Mw.Sep w0 S rs w):Mw.Sep w0 S (xg 48 3 aj (·.1) (λb:fH=>b.2.row) []::rs) w:=Sep.abh H _ _ _ _ _
def iO {L:List fH} (H:Mw.Sep w0 S (aY 48 3 aj x o.row::xg 48 3 aj (·.1) (λb:fH=>b.2.row) L::rs) w):
    Mw.Sep w0 S (xg 48 3 aj (·.1) (λb:fH=>b.2.row) (L++[(x,o)])::rs) w:=Sep.XG (x:=(x,o)) H
end
section
variable {P:Program} {r:Option Nat} {n:Nat} {ops:AO} {Q:Post} {rest:LO} {σ:St} {w w0:Wd} {S:NP} {rs:List HP} {put:HP->List HP} {ty:Td} {pos:String} {after:Array Edge} {p q:HP}
end
def acs (v v':Value):Prop:=∀(w:Wd) ns,aP w v intCells 1 ns->∃ns',aP w v' intCells 1 ns'
def acs.refl (v:Value):acs v v:=λ_ n h=>⟨n,h⟩
def acs.trans {a b c:Value} (h:acs a b) (k:acs b c):acs a c:=λw n d=>let⟨ns',h2⟩:=h w n d;k w ns' h2
variable {b:Nat} {v0:Value}
def Sep.BA {put:HP->List HP} (H:Sep w0 S (q::rs) w) (c:At rs p put):
    ∃F,p.ok F w/\(∀b,F b->S b\/w0.heap.size<=b)/\(∀d,aS F w d->∃a,q.ok a d)/\∀w' f m,aS F w w'->m.ok f w'->(∀b,f b->F b\/w.heap.size<=b)->Sep w0 S (q::put m) w':=by
  obtain⟨F,a,y,j,u,t,h⟩:=H.af9 c;exact⟨F,y,t,λd i=>⟨a,q.loc i.size (λb g=>i.block b (q.low j b g) (u b g)) j⟩,h⟩
def aS.into {f:Wd} (h:aS S w0 w) (c: ∀b,F b->S b\/w0.heap.size<=b) (a:aS F w f):aS S w0 f:=h.trans a λb d=>c b d
def upN (ns:List Int) (x:bT) (m:Nat):List Int:=ns.mapIdx λt n=>if t<m then n+EY x t else n
def Tc (n:List Int) (x:bT) (m:Nat):(upN n x m).length=n.length:=by unfold upN;rw[List.length_mapIdx]
def afb (h:List Int) (x:bT):upN h x 0=h:=by
 unfold upN;refine zes λi=>?_;rw[zep];cases h[i]? with
 | none=>rfl
 | some n=>simp
variable {m:Nat}
def Ab {a:List Int} {x:bT} {t:Nat} (h:a[t]? =some n):(upN a x m)[t]? =some (if t<m then n+EY x t else n):=by
 unfold upN;rw[zep,h];rfl
def aaG {c:List Int} {x:bT} (h:c[m]? =some n):(upN c x m).set m (n+EY x m)=upN c x (m+1):=by
  refine zes λt=>?_;rw[List.getElem?_set,Tc]
  by_cases e:m=t
  . subst e
    rw[zac rfl,zac (zba.1 h).1,Ab h,zac (zfo _)]
  rw[zab e];cases ht:c[t]? with
  | none=>unfold upN;rw[zep,zep,ht];rfl
  | some k=>
   rw[Ab ht,Ab ht];congr 1;by_cases a:t<m
   . rw[zac a,zac oM]
   rw[zab a,zab oM]
def afc {ns:List Int} {x:bT} (h:EY x m=0):upN ns x (m+1)=upN ns x m:=by
 refine zes λt=>?_;cases ht:ns[t]? with
 | none=>unfold upN;rw[zep,zep,ht];rfl
 | some k=>
  rw[Ab ht,Ab ht];congr 1
  by_cases a:t<m
  .rw[zac a,zac oM]
  rw[zab a]
  by_cases c:t=m
  .subst c;rw[zac oM,h];omega
  rw[zab oM]
def ahA {s:Nat} {E:List bT} {x:bT}:upN (fu s E x.key) x (s+1)=fu s (E++[x]) x.key:=by
 refine zes λt=>?_
 by_cases h:t<=s
 .rw[Ab (yX h),yX h,zac oM,uW]
  congr 1
  show _=_+((if x.key=x.key then EY x t else 0)+0)
  rw[zac rfl];omega
 rw[zed (by rw[Tc,lQ];omega),zed (by rw[lQ];omega)]
def YP {s:Nat} {E:List bT} {x:bT} {k:List aF} (h:x.key≠k):fu s (E++[x]) k=fu s E k:=by
 unfold fu;refine zcu λi _=>?_;rw[uW];show _+((if x.key=k then EY x i else 0)+0)=_
 rw[zab h];omega
def amY {α:Type} {enc:α->LV} {k b e:Nat} [h:jl enc k] {x:α} (H:Mw.Sep w0 S (blk b ([x].flatMap enc) e::rs) w):Mw.Sep w0 S (aY e k enc (.slice (some ⟨b,0,none⟩) 1 1) [x]::rs) w:=
 Sep.nC (n:=1) H At0 (jh h.len [x]) dC
end Go.Proofs.Mw
