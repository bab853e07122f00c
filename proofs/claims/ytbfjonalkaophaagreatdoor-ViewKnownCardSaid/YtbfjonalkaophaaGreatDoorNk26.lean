/-
 What a keeper of groups holds,as pieces;the states that are put and taken out. No program stands here.
-/
import Derived.Test.YtbfjonalkaophaaGreatDoorNk25
set_option linter.all false
set_option maxRecDepth 20000
namespace Go.Proofs.Mw
open Go.Lib Go.Proofs.Tryz
attribute [local irreducible] FW FL FG FGn jX lg gD l7 Qfn ah
def FU (w:Wd) (C:List vL):Prop:=∀c∈C,iB w c.b [c.kv,c.sv] 435/\aP w c.kv aj 3 c.key/\aP w c.sv dH 3 c.ns
def W9: ∀{C:List vL} {F:NP} {w:Wd},(jA (C.map M6)).ok F w->FU w C
 | [],_,_,_=>λc S=>zas S zal
 | c::C,F,w,⟨F1,F2,_,_,⟨G1,G2,_,_,hb,G3,G4,_,_,h1,h2⟩,h3⟩=>λd h=>by
  rcases zax.1 h with rfl | h
  .exact⟨hb.2,nH h1,nH h2⟩
  exact W9 h3 d h
structure nD (f:List aF->Option (List Int)) (L:List gV):Prop where
 nd:(L.map (·.2.2.1)).Nodup
 is: ∀s∈L,f s.2.2.1=some s.2.2.2
 all: ∀k,f k≠none->k∈L.map (·.2.2.1)
 fit: ∀s∈L,iA s.2.2.1/\s.2.2.1.length<=16
def TI (f:List aF->Option (List Int)) (k:List aF) (o:Option (List Int)):List aF->Option (List Int):=λx=>if x=k then o else f x
def xR (L:List gV) (s:gV):List gV:=if s.2.2.1∈L.map (·.2.2.1)then L.map (λt=>if t.2.2.1=s.2.2.1 then s else t)else L++[s]
def Qw (L:List gV) (k:List aF):List gV:=L.filter λt=> !decide (t.2.2.1=k)
def Qx {a b:List aF} (h:iA a) (S:iA b):(fJ a==fJ b)=decide (a=b):=by
 rw[zdx,beq_iff_eq,decide_eq_true_iff];exact⟨CG h S,λe=>by rw[e]⟩
def FV {k:List aF} (S:iA k): ∀{L:List gV},(∀s∈L,iA s.2.2.1)->mW (L.map iH) (fJ k)=(L.find? λs=>decide (s.2.2.1=k)).map λs=>agg [s.1,s.2.1]
 | [],_=>rfl
 | s::L,h=>by
  have i:=FV S (L:=L) λt b=>h t (zap _ b);have a:=Qx (h s zak) S;unfold mW at i ⊢;rw[zbc,zcm,zcm,show((iH s).1==fJ k)=decide (s.2.2.1=k)from a];cases hb:decide (s.2.2.1=k)with
  | true=>rfl
  | false=>exact i
variable {f:List aF->Option (List Int)} {L:List gV} {k:List aF} {ns:List Int} {s:gV}
def nD.cB (h:nD f L): ∀s∈L,iA s.2.2.1:=λs S=>(h.fit s S).1
def nD.get (h:nD f L) (c:iA k) (a:f k=some ns): ∃s∈L,s.2.2.1=k/\s.2.2.2=ns/\mW (L.map iH) (fJ k)=some (agg [s.1,s.2.1]):=by
 have d:=h.all k (by rw[a];exact λh=>nomatch h);rw[FV c h.cB];cases hx:L.find? λs=>decide (s.2.2.1=k)with
 | none=>
  obtain⟨s,S,e⟩:=zav.1 d;exact zas (zau e) (zfb.1 hx s S)
 | some s=>
  have S:=zek hx;have b:=List.find?_some hx;have e:s.2.2.1=k:=zbe b;refine⟨s,S,e,?_,rfl⟩;have:=h.is s S;rw[e,a]at this;injection this with this
  exact this.symm
def nD.am3 (h:nD f L) (b:iA k) (a:f k=none):mW (L.map iH) (fJ k)=none:=by
 rw[FV b h.cB,zfp,zfb];intro s c S;have:=h.is s c;rw[zbe S,a]at this;cases this
def Nf:(xR L s).map (·.2.2.1)=if s.2.2.1∈L.map (·.2.2.1)then L.map (·.2.2.1)else L.map (·.2.2.1)++[s.2.2.1]:=by
 unfold xR
 split
 .rw[zdn]
  refine zcu λt _=>?_;show(if t.2.2.1=s.2.2.1 then s else t).2.2.1=t.2.2.1
  split
  .rename_i e;exact e.symm
  rfl
 rw[zan];rfl
def Jt {t:gV} (S:t∈xR L s):t=s\/(t∈L/\t.2.2.1≠s.2.2.1):=by
 unfold xR at S
 split at S
 .obtain⟨u,b,rfl⟩:=zav.1 S
  split
  .exact .inl rfl
  rename_i e;exact .inr ⟨b,e⟩
 rename_i a
 rcases zbh.1 S with h | h
 .exact .inr ⟨h,λe=>a (zav.2 ⟨t,h,e⟩)⟩
 exact .inl (zaw.1 h)
def nD.put (h:nD f L) (m:iA s.2.2.1/\s.2.2.1.length<=16):nD (TI f s.2.2.1 (some s.2.2.2)) (xR L s):=by
 refine⟨?_,λt d=>?_,λk c=>?_,λt d=>?_⟩
 .rw[Nf]
  split
  .exact h.nd
  rename_i l;rw[zet];exact⟨h.nd,sM,λa j b g e=>by rw[zaw]at g;subst g;subst e;exact l j⟩
 .unfold TI
  rcases Jt d with rfl | ⟨S,i⟩
  .rw[zac rfl]
  rw[zab i];exact h.is t S
 .rw[Nf]
  unfold TI at c
  by_cases e:k=s.2.2.1
  .subst e
   split
   .assumption
   exact zck _ (zaw.2 rfl)
  rw[zab e]at c;have:=h.all k c
  split
  .exact this
  exact zcg _ this
 rcases Jt d with rfl | ⟨S,_⟩
 .exact m
 exact h.fit t S
def nD.del (h:nD f L):nD (TI f k none) (Qw L k):=by
 unfold Qw;refine⟨h.nd.sublist (List.filter_sublist.map _),λt S=>?_,λx a=>?_,λt S=>h.fit t (zca.1 S).1⟩
 .obtain⟨b,c⟩:=zca.1 S
  have d: ¬t.2.2.1=k:=by simpa using c
  unfold TI;rw[zab d];exact h.is t b
 unfold TI at a
 by_cases e:x=k
 .rw[zac e]at a;exact zas rfl a
 rw[zab e]at a;obtain⟨t,S,rfl⟩:=zav.1 (h.all x a);exact zav.2 ⟨t,zca.2 ⟨S,by simpa using e⟩,rfl⟩
def nD.congr {g:List aF->Option (List Int)} (h:nD f L) (e: ∀k,g k=f k):nD g L:=by
 have :g=f:=funext e;rw[this];exact h
def Qy (a: ∀s∈L,iA s.2.2.1) (c:iA s.2.2.1):Bc (L.map iH) (fJ s.2.2.1) (agg [s.1,s.2.1])=(xR L s).map iH:=by
 unfold Bc xR
 have b:(mW (L.map iH) (fJ s.2.2.1)).isSome=true↔s.2.2.1∈L.map (·.2.2.1):=by
  rw[FV c a,Option.isSome_map,List.find?_isSome];constructor
  .rintro⟨t,S,e⟩;exact zav.2 ⟨t,S,zbe e⟩
  intro h;obtain⟨t,S,e⟩:=zav.1 h;exact⟨t,S,zau e⟩
 by_cases h:s.2.2.1∈L.map (·.2.2.1)
 .rw[zac (b.2 h),zac h,zdn,zdn]
  refine zcu λt S=>?_;show(if(iH t).1=fJ s.2.2.1 then(fJ s.2.2.1,agg [s.1,s.2.1])else iH t)=iH (if t.2.2.1=s.2.2.1 then s else t)
  by_cases e:t.2.2.1=s.2.2.1
  .rw[zac e,zac (show(iH t).1=_ by unfold iH;rw[e])];rfl
  rw[zab e,zab (show ¬(iH t).1=fJ s.2.2.1 from λd=>e (CG (a t S) c d))]
 rw[zab (λe=>h (b.1 e)),zab h,zan];rfl
def acZ (h: ∀s∈L,iA s.2.2.1) (a:iA s.2.2.1) (S:s.2.2.1∉L.map (·.2.2.1)):Bc (L.map iH) (fJ s.2.2.1) (agg [s.1,s.2.1])=(L++[s]).map iH:=by
 rw[Qy h a];unfold xR;rw[zab S]
def ac0 (h: ∀s∈L,iA s.2.2.1) (S:iA k):Xw (L.map iH) (fJ k)=(Qw L k).map iH:=by
 unfold Xw Qw;rw[List.filter_map]
 congr 1
 refine List.filter_congr λt a=>?_;show(!((iH t).1==fJ k))=_
 rw[show((iH t).1==fJ k)=decide (t.2.2.1=k)from Qx (h t a) S]
def FX (bh sums:Nat) (E:List bT):HP:=exH λL:List gV=>dx (iD bh (L.map iH)) (dx (fA λw=>iC w L) (jH (nD (stE sums E) L)))
variable {w:Wd} {bh sums:Nat} {E:List bT}
def zl {a:Wd} {S:NP} {r:List HP} {L:List gV} (H:Mw.Sep a S (fA (λw=>iC w L)::iD bh (L.map iH)::r) w) (h:nD (stE sums E) L):Mw.Sep a S (FX bh sums E::r) w:=
 Sep.tZ (p:=λL:List gV=>dx (iD bh (L.map iH)) (dx (fA λw=>iC w L) (jH (nD (stE sums E) L)))) L ((Sep.jY h H).aJ.aZ.aJ.aZ)
def Qz {b:Wd} {S:NP} {r:List HP} (H:Mw.Sep b S (FX bh sums E::r) w): ∃L,nD (stE sums E) L/\Mw.Sep b S (fA (λw=>iC w L)::iD bh (L.map iH)::r) w:=by
 obtain⟨L,G⟩:=Sep.ex0 H;obtain⟨a,h⟩:=Sep.ru (G.bW.aJ.bW.aJ);exact⟨L,a,h⟩
def ac1 (h:Nat):nD (stE h []) []:=⟨List.nodup_nil,λs S=>zas S zal,λk a=>zas (by unfold stE;rw[zab];simp[fu,jV]) a,λs S=>zas S zal⟩
def iC.sub {w:Wd} {M:List gV} (h:iC w M) (a: ∀s∈L,s∈M):iC w L:=λs S=>h s (a s S)
def iC.app {M:List gV} (h:iC w L) (S:iC w M):iC w (L++M):=λs a=>(zbh.1 a).elim (h s) (S s)
def iC.push {s:gV} (h:iC w L) (a:aP w s.1 aj 3 s.2.2.1) (b:aP w s.2.1 oZ 1 s.2.2.2) (c:iA s.2.2.1):iC w (L++[s]):=h.app λt S=>by
 rw[zaw]at S;subst S;exact⟨⟨a,b⟩,c⟩
def Ng (sums:Nat) (E l:List bT) (done:List (List aF)):List aF->Option (List Int):=λk=>if k∈done then stE sums (E++l) k else stE sums E k
variable {l:List bT}
def afN (k:List aF):Ng sums E l [] k=stE sums E k:=zab zal
def afO {done:List (List aF)} (S: ∀k∈gN l,k∈done) (k:List aF):stE sums (E++l) k=Ng sums E l done k:=by
 unfold Ng
 split
 .rfl
 rename_i h;exact abZ λa=>h (S k a)
def QA {done:List (List aF)} {o:Option (List Int)} (a:o=stE sums (E++l) k) (x:List aF):Ng sums E l (k::done) x=TI (Ng sums E l done) k o x:=by
 unfold Ng TI;show(if x∈k::done then stE sums (E++l) x else stE sums E x)=if x=k then o else if x∈done then stE sums (E++l) x else stE sums E x
 by_cases e:x=k
 .subst e;rw[zac zak,zac rfl,a]
 rw[zab e]
 by_cases S:x∈done
 .rw[zac S,zac (zap _ S)]
 rw[zab S,zab (λh=>(zax.1 h).elim e S)]
def ac2 {x:bT} (h:cB x.w) (S: ∀c∈x.vals,cB c.n) (i:Nat): -85070591730234615865843651857942052864<=EY x i/\EY x i<=85070591730234615865843651857942052864:=by
 unfold EY
 split
 .unfold cB at h;omega
 split
 .omega
 refine Cy h ?_;rw[zao];cases hc:x.vals[i-1]? with
 | none=>exact⟨dC,dC⟩
 | some c=>exact S c (zag hc)
def ac3 (h: ∀x∈l,cB x.w/\∀c∈x.vals,cB c.n) (k:List aF) (i:Nat): -(85070591730234615865843651857942052864*(l.length:Int))<=jV l k i/\jV l k i<=85070591730234615865843651857942052864*(l.length:Int):=by
 induction l with
 | nil=>exact⟨by simp[jV],by simp[jV]⟩
 | cons x l a=>
  have b:=a λy S=>h y (zap _ S);have d:=ac2 (h x zak).1 (h x zak).2 i;rw[jV,zat]
  split<;>omega
def Zj (a:xq sums E=true) (h: ∀x∈l,cB x.w/\∀c∈x.vals,cB c.n) (e:l.length<=1000) {n:Int} (S:n∈fu sums (E++l) k): -3138550867693340381917894711603833208051177722232017256448<=n/\n<3138550867693340381917894711603833208051177722232017256448:=by
 unfold fu at S;obtain⟨i,hi,rfl⟩:=zav.1 S;rw[zeg]at hi;have b:=zbe (uY.1 a k i oM);have d:=ac3 h k i;rw[uW];omega
structure Nh (sums:Nat) (E l:List bT) (C:List vL) (Ln:List gV) (Lf:List Ent) (LI:List fH):Prop where
 rest: ∃Cl:List vL,(∀c∈Cl,c∈C)/\Lf.Perm (Cl.map TG)/\(C.map (·.key)).Perm (Ln.map (·.2.2.1)++Cl.map (·.key))
 nums: ∀s∈Ln,s.2.2.2=fu sums (E++l) s.2.2.1/\(∀n∈s.2.2.2,bM n=true)/\iA s.2.2.1/\s.2.2.1.length<=16
 its:LI.map (·.2)=(Ln.map (·.2.2.1)).flatMap λk=>iP (fu sums E k) k (-1)++iP (fu sums (E++l) k) k 1
def Ju {m i:Type} {f:m->i} {L:List m} {p:i} {j:List i} (h:(p::j).Perm (L.map f)): ∃c a,L.Perm (c::a)/\p=f c/\j.Perm (a.map f):=by
 obtain⟨c,g,e⟩:=zav.1 (h.mem_iff.1 zak);obtain⟨s,t,S⟩:=List.append_of_mem g;have d:L.Perm (c::(s++t)):=by rw[S];exact List.perm_middle
 refine⟨c,s++t,d,e.symm,?_⟩;have b:=h.trans (d.map f);rw[zbc,e]at b;exact(List.perm_cons p).1 b
variable {C:List vL} {K:List (List aF)} {Ln:List gV} {LI:List fH}
def Nh.step {P:List Ent} {O N:List Ent} {p:Ent} (h:Nh sums E l C Ln O LI) (a:acW sums (E++l) K C P) (z:K.Nodup) (i: ∀k∈K,k.length<=16) (J:O.Perm (p::N)):
    ∃c:vL,c∈C/\p=TG c/\(c.key∉Ln.map (·.2.2.1))/\c.ns=fu sums (E++l) c.key/\(iA c.key/\c.key.length<=16)/\∀(r t:Value) (L:List fH),L.map (·.2)=iP (fu sums E c.key) c.key (-1)++iP (fu sums (E++l) c.key) c.key 1->(∀n∈c.ns,bM n=true)->Nh sums E l C (Ln++[(r,t,c.key,c.ns)]) N (LI++L):=by
  obtain⟨M,o,u,v⟩:=h.rest;obtain⟨c,g,m,rfl,H⟩:=Ju (J.symm.trans u);have S:c∈C:=o c (m.mem_iff.2 zak);have j:(C.map (·.key)).Nodup:=a.keys.symm.nodup z;have q:(C.map (·.key)).Perm (Ln.map (·.2.2.1)++c.key::g.map (·.key)):=v.trans (List.Perm.append_left _ (m.map _));have x:(Ln.map (·.2.2.1)++c.key::g.map (·.key)).Nodup:=q.nodup j;have e:c.key.length<=16:=i _ (a.keys.mem_iff.1 (zdj S));refine⟨c,S,rfl,λG=>?_,a.nums c S,⟨a.fit c S,e⟩,λr t L y D=>⟨⟨g,λd A=>o d (m.mem_iff.2 (zap _ A)),H,?_⟩,λs b=>?_,?_⟩⟩
  . exact(zet.1 x).2.2 _ G _ zak rfl
  . rw[zan,zbp];exact q
  . rcases zbh.1 b with b | b
    . exact h.nums s b
    rw[zaw]at b;subst b;exact⟨a.nums c S,D,a.fit c S,e⟩
  rw[zan,zan,zbu,h.its,y];simp
variable {D:List Ent}
def Nh.start (S:acW sums (E++l) K C D):Nh sums E l C [] D []:=
 ⟨⟨C,λ_ h=>h,S.data,List.Perm.refl _⟩,λs a=>zas a zal,rfl⟩
def Nh.keys {sums:Nat} {E l:List bT} (h:Nh sums E l C Ln [] LI) (b:acW sums (E++l) K C D):(Ln.map (·.2.2.1)).Perm K:=by
 obtain⟨a,_,h2,S⟩:=h.rest
 have :a=[]:=by
  have:=h2.length_eq;rw[zae]at this;exact zbf this.symm
 subst this;rw[zcn,zbt]at S;exact S.symm.trans b.keys
def Nh.fine {keys:Nat} {E l:List bT} (h:Nh sums E l C Ln [] LI) (g:acW sums (E++l) (gN l) C D) (m:(l.all λx=>qC keys sums x)=true) (i:xq sums E=true):xq sums (E++l)=true/\yY keys sums E l=dJ (LI.map (·.2)):=by
 have b:=h.keys g
 have S:xq sums (E++l)=true:=(ab2 i).2 λk j n a=>by
  obtain⟨s,o,e⟩:=zav.1 (b.mem_iff.2 j);obtain⟨c,d,_⟩:=h.nums s o;rw[<-e]at a;exact d n (by rw[c];exact a)
 refine⟨S,?_⟩;unfold yY;rw[zab (by rw[m];decide),zab (by rw[S];decide),h.its,Yt b]
def ac4 {keys:Nat} {n:Int} (b:(l.all λx=>qC keys sums x)=true) (S:n∈fu sums (E++l) k) (a:bM n≠true):yY keys sums E l=([],50):=by
 have :xq sums (E++l)=false:=by
  cases h:xq sums (E++l)with
  | false=>rfl
  | true=>
   unfold fu at S;obtain⟨i,hi,rfl⟩:=zav.1 S;exact zas (uY.1 h k i (by have:=zeg.1 hi;omega)) a
 unfold yY;rw[zab (by rw[b];decide),zac this]
structure OJ (sums:Nat) (E l:List bT) (L0 Ln L:List gV) (Lf:List Ent) (done:List (List aF)):Prop where
 held:nD (Ng sums E l done) L
 from_: ∀s∈L,s∈Ln\/s∈L0
 rest: ∃Lr:List gV,(∀s∈Lr,s∈Ln)/\Lf.Perm (Lr.map iH)/\∀s∈Ln,s∈Lr\/s.2.2.1∈done
variable {L0:List gV}
def OJ.start (h:nD (stE sums E) L0):OJ sums E l L0 Ln L0 (Ln.map iH) []:=
 ⟨h.congr λk=>afN k,λs S=>.inr S,⟨Ln,λ_ h=>h,List.Perm.refl _,λs S=>.inl S⟩⟩
def OJ.step {J G:List Ent} {done:List (List aF)} {p:Ent} (h:OJ sums E l L0 Ln L J done) (C: ∀s∈Ln,s.2.2.2=fu sums (E++l) s.2.2.1/\iA s.2.2.1/\s.2.2.1.length<=16) (D:J.Perm (p::G)):
    ∃s:gV,s∈Ln/\p=iH s/\((s.2.2.2.any λn=>decide (n≠0))=true->OJ sums E l L0 Ln (xR L s) G (s.2.2.1::done))/\((s.2.2.2.any λn=>decide (n≠0))=false->OJ sums E l L0 Ln (Qw (xR L s) s.2.2.1) G (s.2.2.1::done)):=by
  obtain⟨d,q,y,z⟩:=h.rest;obtain⟨s,r,i,rfl,A⟩:=Ju (D.symm.trans y);have j:s∈Ln:=q s (i.mem_iff.2 zak);obtain⟨m,u,v⟩:=C s j;have c:=h.held.put ⟨u,v⟩
  have S: ∀t∈xR L s,t∈Ln\/t∈L0:=λt b=>by
    rcases Jt b with rfl | ⟨b,_⟩
    . exact .inl j
    exact h.from_ t b
  have a: ∃d:List gV,(∀s∈d,s∈Ln)/\G.Perm (d.map iH)/\∀t∈Ln,t∈d\/t.2.2.1∈s.2.2.1::done:=⟨r,λt b=>q t (i.mem_iff.2 (zap _ b)),A,λt b=>by
    rcases z t b with e | e
    . rcases zax.1 (i.mem_iff.1 e)with rfl | H
      . exact .inr zak
      exact .inl H
    exact .inr (zap _ e)⟩
  refine⟨s,j,rfl,λg=>⟨c.congr λx=>QA ?_ x,S,a⟩,λg=>⟨?_,λt b=>S t (zca.1 b).1,a⟩⟩
  . unfold stE
    rw[<-m,zac g]
  refine(c.del (k:=s.2.2.1)).congr λx=>?_;rw[QA (o:=none) (by unfold stE;rw[<-m,zab (by rw[g];decide)])];unfold TI
  split<;>rfl
def OJ.end_ {done:List (List aF)} (h:OJ sums E l L0 Ln L [] done) (g: ∀k∈gN l,k∈Ln.map (·.2.2.1)):nD (stE sums (E++l)) L:=by
 obtain⟨b,_,c,d⟩:=h.rest
 have :b=[]:=by
  have:=c.length_eq;rw[zae]at this;exact zbf this.symm
 subst this;refine h.held.congr λk=>afO (λk a=>?_) k;obtain⟨s,i,e⟩:=zav.1 (g k a)
 rcases d s i with S | S
 .exact zas S zal
 rw[<-e];exact S
def txA:L8:=[119,104,101,114,101,32,35,49,32,48,32,60,32,110,111,116,10,111,117,116,32,115,32,35,50,10,103,114,111,117,112,32,110,111,110,101,10]
def plA:aU:=⟨[⟨1,1,[]⟩,⟨2,0,[]⟩,⟨12,0,[]⟩,⟨15,0,[]⟩],[⟨[115],[⟨1,2,[]⟩]⟩], -1⟩
def txG:L8:=[119,104,101,114,101,32,110,111,110,101,10,111,117,116,32,115,32,35,50,10,111,117,116,32,110,32,35,49,10,103,114,111,117,112,32,49,10]
def plG:aU:=⟨[],[⟨[115],[⟨1,2,[]⟩]⟩,⟨[110],[⟨1,1,[]⟩]⟩],1⟩
def txO:L8:=[119,104,101,114,101,32,110,111,110,101,10,111,117,116,32,120,32,35,49,32,57,50,50,51,51,55,50,48,51,54,56,53,52,55,55,53,56,48,55,32,43,10,103,114,111,117,112,32,110,111,110,101,10]
def plO:aU:=⟨[],[⟨[120],[⟨1,1,[]⟩,⟨2,9223372036854775807,[]⟩,⟨7,0,[]⟩]⟩], -1⟩
def ald:L8:=[119,104,101,114,101,32,110,111,110,101,10,111,117,116,32,110,32,35,49,10,103,114,111,117,112,32,110,111,110,101,10]
def am4:aU:=⟨[],[⟨[110],[⟨1,1,[]⟩]⟩], -1⟩
def ale:L8:=[119,104,101,114,101,32,35,50,32,105,115,110,117,108,108,10,111,117,116,32,110,32,35,49,32,35,49,32,42,10,111,117,116,32,115,32,35,50,32,34,122,34,32,101,108,115,101,10,103,114,111,117,112,32,110,111,110,101,10]
def am5:aU:=⟨[⟨1,2,[]⟩,⟨16,0,[]⟩],[⟨[110],[⟨1,1,[]⟩,⟨1,1,[]⟩,⟨9,0,[]⟩]⟩,⟨[115],[⟨1,2,[]⟩,⟨4,0,[122]⟩,⟨17,0,[]⟩]⟩], -1⟩
def alf:L8:=[119,104,101,114,101,32,35,50,32,34,98,34,32,60,10,111,117,116,32,115,32,35,50,10,111,117,116,32,110,32,35,49,32,35,50,32,108,101,110,32,43,10,103,114,111,117,112,32,49,10]
def am6:aU:=⟨[⟨1,2,[]⟩,⟨4,0,[98]⟩,⟨12,0,[]⟩],[⟨[115],[⟨1,2,[]⟩]⟩,⟨[110],[⟨1,1,[]⟩,⟨1,2,[]⟩,⟨18,0,[]⟩,⟨7,0,[]⟩]⟩],1⟩
def alg:L8:=[119,104,101,114,101,32,110,111,110,101,10,111,117,116,32,110,32,35,49,10,103,114,111,117,112,32,48,10]
def am7:aU:=⟨[],[⟨[110],[⟨1,1,[]⟩]⟩],0⟩
def alh:L8:=[119,104,101,114,101,32,110,111,110,101,10,111,117,116,32,115,32,35,50,10,111,117,116,32,110,32,35,49,10,103,114,111,117,112,32,50,10]
def am8:aU:=⟨[],[⟨[115],[⟨1,2,[]⟩]⟩,⟨[110],[⟨1,1,[]⟩]⟩],2⟩
def ali:L8:=[119,104,101,114,101,32,35,49,32,50,49,52,55,52,56,51,54,52,55,32,61,32,35,50,32,105,115,110,117,108,108,32,111,114,10,111,117,116,32,110,32,35,49,32,52,50,57,52,57,54,55,50,57,54,32,42,10,111,117,116,32,109,32,35,49,32,52,54,49,49,54,56,54,48,49,56,52,50,55,51,56,55,57,48,52,32,42,10,103,114,111,117,112,32,48,10]
def am9:aU:=⟨[⟨1,1,[]⟩,⟨2,2147483647,[]⟩,⟨11,0,[]⟩,⟨1,2,[]⟩,⟨16,0,[]⟩,⟨14,0,[]⟩],[⟨[110],[⟨1,1,[]⟩,⟨2,4294967296,[]⟩,⟨9,0,[]⟩]⟩,⟨[109],[⟨1,1,[]⟩,⟨2,4611686018427387904,[]⟩,⟨9,0,[]⟩]⟩],0⟩
def alj:L8:=[119,104,101,114,101,32,110,117,108,108,58,98,111,111,108,10,111,117,116,32,110,32,35,49,10,103,114,111,117,112,32,48,10]
def ana:aU:=⟨[⟨6,1,[]⟩],[⟨[110],[⟨1,1,[]⟩]⟩],0⟩
def zm (l:List bH):Bool:=l.all λx=>decide (-9223372036854775808<=x.n/\x.n<=9223372036854775807)
def rW {l:List bH} (h:zm l=true):bY l:=λx a=>by
 have S:=zaz.1 h x a;exact zbe (p:= -9223372036854775808<=x.n/\x.n<=9223372036854775807) S
def textOf (p:aU) (t:L8):Bool:=Dx p&&zm p.wh&&p.cols.all (λo=>zm o.steps)&&decide (uz (l8 p)=t)&&decide (t.length<=1000)
def zn {p:aU} {t:L8} (h:textOf p t=true):l9 t=(p,0,0)/\(bY p.wh/\∀o∈p.cols,bY o.steps)/\t.length<=1000:=by
 unfold textOf at h;simp only[zbr,decide_eq_true_eq]at h;obtain⟨⟨⟨⟨S,a⟩,b⟩,c⟩,d⟩:=h;have f2:=rW a;have f3: ∀o∈p.cols,bY o.steps:=λo e=>rW (zaz.1 b o e);subst c;exact⟨acf S f2 f3 oM,⟨f2,f3⟩,d⟩
def aiS:textOf plA txA=true:=by decide+kernel
def afP:textOf plG txG=true:=by decide+kernel
def aiT:textOf plO txO=true:=by decide+kernel
def ajC:textOf am4 ald=true:=by decide+kernel
def ajD:textOf am5 ale=true:=by decide+kernel
def ajE:textOf am6 alf=true:=by decide+kernel
def ajF:textOf am7 alg=true:=by decide+kernel
def ajG:textOf am8 alh=true:=by decide+kernel
def ajH:textOf am9 ali=true:=by decide+kernel
def ajI:textOf ana alj=true:=by decide+kernel
def aV:L8:=[97]
def bV:L8:=[98]
def iV (id:Int) (s:L8) (w:Int):aH:=⟨aaX id s,w⟩
def iQ (s:L8):aF:=⟨false,0,s⟩
def vQ (n:Int):aF:=⟨false,n,[]⟩
def Kv (w:Int):aH:=⟨[iQ aV],w⟩
def KS (s:aF) (count n w:Int):aH:=⟨[s,vQ count,vQ n],w⟩
def lA1:List aH:=[iV 1 aV 1,iV (-2) bV 1,iV 3 aV 2]
def lA2:List aH:=[iV 1 aV (-1),iV (-2) bV (-1)]
def lG1:List aH:=[iV 5 aV 1,iV 2 aV 1,iV 1 [] 1]
def lG2:List aH:=[iV 2 aV (-1),iV 9 aV 1]
def lG3:List aH:=[⟨[vQ 1,iQ aV,iQ aV],1⟩]
def lD:List aH:=[⟨[vQ 2147483648],1⟩]
def lO1:List aH:=[iV 1 aV 1]
def lO2:List aH:=[iV 0 aV 1]
def tA1:List aH:=eU pQ plA [] lA1
def tA2:List aH:=eU pQ plA tA1 lA2
def tG1:List aH:=eU pQ plG [] lG1
def tG2:List aH:=eU pQ plG tG1 lG2
def FY:aF:=⟨true,0,[]⟩
def Ev:(bD pQ plA).2=0/\dN pQ plA [] lA1=([Kv 3],0)/\dN pQ plA tA1 lA2=([Kv (-1)],0)/\dP plA.group plA.cols.length tA2=([Kv 2],0):=by decide+kernel
def pG:(bD pQ plG).2=0/\dN pQ plG [] lG1=([KS FY 1 1 1,KS (iQ aV) 2 7 1],0)/\dN pQ plG tG1 lG2=([KS (iQ aV) 2 7 (-1),KS (iQ aV) 2 14 1],0)/\dN pQ plG tG2 lG3=([],100)/\dN pQ plG tG2 []=([],0)/\fI pQ plG lD=([],100):=by decide+kernel
def Jv:(bD pQ plO).2=0/\dN pQ plO [] lO1=([],50)/\dN pQ plO [] lO2=([⟨[vQ 9223372036854775807],1⟩],0):=by decide+kernel
structure anb where
 xv:Value
 LI:List fH
 Ln:List gV
 Lf:List Ent
structure anc where
 L:List gV
 Lf:List Ent
 done:List (List aF)
def zo (l:List bT):(gN l).length<=l.length:=by
 refine Ml (p:=λl=>(gN l).length<=l.length) (zai _) (λl x i=>?_) l;rw[oF,zad]
 split
 .omega
 rw[zad];simp only[zaf];omega
def QB (h:List (List aF)) (f g:List aF->List Int):(h.flatMap λk=>iP (f k) k (-1)++iP (g k) k 1).length<=2*h.length:=by
 induction h with
 | nil=>exact zai _
 | cons k h i=>
  have S:=rQ (f k) k (-1);have a:=rQ (g k) k 1;rw[zbi,zad,zad,zat];omega
def zq {S:Int} {o:aH} (h:o∈iP ns k S):o.row=k++ns.map gW/\o.w=S:=by
 unfold iP at h
 split at h
 .exact zas h zal
 rw[zaw]at h;subst h;exact⟨rfl,rfl⟩
def ac5 {a:List (List aF)} {f g:List aF->List Int} {o:aH} (h:o∈a.flatMap λk=>iP (f k) k (-1)++iP (g k) k 1): ∃k∈a,(o.row=k++(f k).map gW\/o.row=k++(g k).map gW)/\(o.w= -1\/o.w=1):=by
 obtain⟨k,S,h⟩:=zcc.1 h
 rcases zbh.1 h with h | h
 .exact⟨k,S,.inl (zq h).1,.inl (zq h).2⟩
 exact⟨k,S,.inr (zq h).1,.inr (zq h).2⟩
variable {w:Wd} {F:NP}
def ac6 (n:Int):Rk prog 398 [I n] w (.bool (decide (n≠0))):=by
 have H:=Sep.aI w;refine dL func398 ?_;refine V4 ?_;exact⟨rfl,H.au⟩
def QC (h:nD (stE sums E) L0) (j:iA k) (r:xq sums E=true):
    ∃(m o:Value) (d:List aF) (S:List Int),(mW (L0.map iH) (fJ k)).getD (agg [.slice none 0 0,.slice none 0 0])=agg [m,o]/\(∀w,iC w L0->aP w m aj 3 d/\aP w o oZ 1 S)/\d.length<=16/\S.length<=sums+1/\(∀n∈S,cB n)/\S++List.replicate (sums+1-S.length) 0=fu sums E k/\∀b,iP S d b=iP (fu sums E k) k b:=by
  have c: ∀n∈fu sums E k,cB n:=λn a=>by
    unfold fu at a;obtain⟨i,hi,rfl⟩:=zav.1 a;have:=zbe (uY.1 r k i (by have:=zeg.1 hi;omega));unfold cB;omega
  cases hs:stE sums E k with
  | none=>
    rw[h.am3 j hs];refine⟨_,_,[],[],rfl,λw _=>⟨mR _ _ _,mR _ _ _⟩,zai _,zai _,λn a=>zas a zal,?_,λb=>?_⟩
    . refine zes λi=>?_
      rw[zby,zci,Nat.sub_zero,List.getElem?_replicate]
      by_cases hi:i<sums+1
      . rw[zac hi,yX oM,zX hs oM]
      rw[zab hi,zed (by rw[lQ];omega)]
    unfold iP;rw[zW,zX hs (zai _),zac rfl];rfl
  | some ns=>
    obtain⟨s,l,g,p,q⟩:=h.get j hs;have e:=Mq hs;rw[q];refine⟨s.1,s.2.1,k,ns,rfl,λw t=>?_,?_,?_,?_,?_,λb=>by rw[e]⟩
    . have:=(t s l).1
      rw[g,p]at this;exact this
    . have:=(h.fit s l).2
      rw[g]at this;exact this
    . rw[e,lQ];exact zbk _
    . rw[e];exact c
    rw[e,lQ,zdw];simp
variable {bg:Nat} {v:Value}
set_option maxHeartbeats 1000000 in
theorem Xa {keys:Nat} {Z:List xA} (hp:(dx (blk bg (q9 keys sums bh) 166) (FX bh sums E)).ok F w)
    (hv: ∀a,aS F w a->aP a v qE 3 Z) (hZ: ∀a,aS F w a->zh a Z) (hT: ∀a,aS F w a->gK a) (hkm:keys<=16) (XO:sums<=16) (hkf: ∀z∈Z,iA z.2.2.key)
    (hf: ∀z∈Z,cB z.2.2.w/\∀c∈z.2.2.vals,cB c.n) (W:Z.length<=100) (hE:xq sums E=true):
    aX prog 390 [aC bg,v] w λu w'=>∃x:Value×List fH,u=.tuple #[x.1,I (yY keys sums E (Z.map (·.2.2))).2]/\x.2.map (·.2)=(yY keys sums E (Z.map (·.2.2))).1/\
      cO F (dx (dB x.1 x.2) (dx (blk bg (q9 keys sums bh) 166) (FX bh sums (if(yY keys sums E (Z.map (·.2.2))).2=0 then E++Z.map (·.2.2)else E)))) w w':=by
  have G1:=(Sep.dA hp).bW;obtain⟨l,hS,H⟩:=Qz G1.aJ;obtain⟨g,r⟩: ∃g,g=Z.map (λz=>z.2.2):=⟨_,rfl⟩;rw[<-r]
  have hfl: ∀x∈g,cB x.w/\∀c∈x.vals,cB c.n:=λx hx=>by
    rw[r]at hx;obtain⟨z,J,rfl⟩:=zav.1 hx;exact hf z J
  have hgn:g.length<=100:=by rw[r,zae];exact W
  obtain⟨A,m,rfl,⟨hm,Gj⟩,_⟩:=hv w (aS.refl _ _);refine dn func390 ?_;refine Sr (bK H (cs:=[aC bg]) rfl (h:=λb2 w2 H2 k1=>?_));refine Kz (MZ (H2.obj At3)) (λw7 H7 k6=>?_);refine Qn (Cd rfl (λhc8=>?_) (λhc8=>?_))
  . exact Bool.noConfusion hc8
  refine Kz (acV (Z:=Z) (H7.obj At3) (H7.obj At0) (hZ _ H7.au) (hv _ H7.au)) (λwa Ha ka=>?_);refine Qn (Cd rfl (λIe=>?_) (λIe=>?_))
  . have aaf:(g.all λx=>qC keys sums x)=false:=by
      have hc:(Z.any λz=> !qC keys sums z.2.2)=true:=by simpa using Ie
      rw[r,zgm];rw[List.any_eq_not_all_not]at hc;simpa[Function.comp_def]using hc
    have S:yY keys sums E g=([],2):=by unfold yY;rw[zac aaf]
    refine V2 ?_;exact⟨(.slice none 0 0,[]),by rw[S];rfl,by rw[S];rfl,by
    rw[S,zab dC];exact(Sep.gQ (bU (zl Ha.bN hS).aJ.aZ) 25 2).aZ.aZ.bf⟩
  have aag:(g.all λx=>qC keys sums x)=true:=by
    have hc:(Z.any λz=> !qC keys sums z.2.2)=false:=by simpa using Ie
    rw[r,zgm];rw[List.any_eq_not_all_not]at hc;simpa[Function.comp_def]using hc
  have hmz: ∀z∈Z,z.2.2.key.length=keys/\z.2.2.vals.length=sums:=λz J=>by
    have:=zaz.1 aag z.2.2 (by rw[r];exact zdj J);unfold qC at this;rw[zbr,decide_eq_true_iff]at this;exact this.1
  have hkl: ∀k∈gN g,k.length<=16:=λk hk=>by
    obtain⟨x,hx,e⟩:=(oV g).1 hk;rw[r]at hx;obtain⟨z,J,rfl⟩:=zav.1 hx;have:=(hmz z J).1;rw[<-e];omega
  refine V0 ?_;refine vG Ha (h:=λbn wb Hb kb=>?_);have Hb:=Sep.Ud Hb At0;refine V4 ?_;obtain⟨F0,hpF,hS0,hQ0,ag6⟩:=Sep.BA (Hb.eZ.bB.aZ) At2;have hK0: ∀a,aS F0 _ a->aS F w a:=λa h1=>Mw.aS.into Hb.au hS0 h1;have amg: ∀a,aS F0 _ a->iC a l:=λa h1=>by obtain⟨Fq,F1,F2,_,_,h2,_⟩:=hQ0 a h1;exact sJ h2
  refine aO (Zc (bg:=bg) (keys:=keys) (sums:=sums) (bh:=bh) (E:=E) (λa h1=>by obtain⟨Fq,F1,F2,_,_,_,h2⟩:=hQ0 a h1;exact h2.2) (λa h1=>hv a (hK0 a h1)) (λa h1=>hZ a (hK0 a h1)) (λa h1=>hT a (hK0 a h1)) XO (λz J=>⟨by rw[(hmz z J).1];exact hkm,hkf z J⟩) (λz J=>(hmz z J).2) hf oM
    (λz J=>by
      obtain⟨hv0,nv0,k0,ns0,e1,e2,_,e4,e5,e6,_⟩:=QC hS (hkf z J) hE;exact⟨hv0,nv0,ns0,e1,λa h1=>(e2 a (amg a h1)).2,e4,e5,e6⟩) hpF) rfl rfl (λv' wc hv'=>?_)
  obtain⟨bm,D,C,rfl,hC,hk1,F1,hq1,hs1⟩:=hv';rw[<-r]at hC;have Hc:=ag6 _ F1 (jA (iD bm D::iD bh (l.map iH)::C.map M6)) hk1 hq1 hs1;have Hc:Mw.Sep w F (dx (iD bm D) (dx (iD bh (l.map iH)) (jA (C.map M6)))::dx (fA λw=>iC w l) (blk bg (q9 keys sums bh) 166)::iD bn []::blk b2 [aC bg] 127::[]) _:=Hc.bB;have Hc:=Sep.look (X:=λw=>FU w C) (Hc.bW.aJ.bW.aJ) At0 (λF w h=>W9 h);have Hc:=Sep.jN (Z:=λw=>iC w ([]:List gV)/\FU w C/\iC w l) (Hc.bB.bW.aR) (λw h1 h2=>⟨λs hs=>zas hs zal,h1,h2⟩);have Hc:Mw.Sep w F [blk b2 [aC bg] 127,blk bg (q9 keys sums bh) 166,iD bm D,iD bn [],iD bh (l.map iH),fA λw=>iC w ([]:List gV)/\FU w C/\iC w l] _:=Hc.aR.eZ.eZ.eZ.iy;refine Jr Hc At2 (h:=?_);intro q wd Hd;refine V0 ?_;have aog:=Fp g;refine aM (λx:anb=>[(2,aC b2),(6,.map (some bn)),(7,x.xv),(28,aC q)]) (λx w'=>Nh sums E g C x.Ln x.Lf x.LI/\Mw.Sep w F [blk b2 [aC bg] 127,blk bg (q9 keys sums bh) 166,dB x.xv x.LI,vV q bm D x.Lf,iD bn (x.Ln.map iH),iD bh (l.map iH),fA λw=>iC w x.Ln/\FU w C/\iC w l] w') (λx _=>x.Lf.length) ⟨.slice none 0 0,[],[],D⟩ tR ⟨Nh.start hC,(Sep.gQ (bU Hd) 25 2).aZ.aR.aR⟩ (λx τ we hI=>?_);obtain⟨xv,LI,R,Lf⟩:=x;obtain⟨T,He⟩:=hI;dsimp only at T He;refine Lp ?_;refine Sr (M5 He At3 (h1:=λp M wf Q Hf=>?_) (h2:=λQ=>?_))
  . obtain⟨⟨bc,kv,sv,key,ns⟩,N,rfl,hck,hcn,b,ai2⟩:=T.step hC aog hkl Q
    have hLt:M.length<Lf.length:=by have:=(Q).length_eq;simp only[zat]at this;omega
    dsimp only at hck hcn b ai2;have hcg:FU _ C:=(Sep.dh Hf At6).2.1;have akq:aP _ kv aj 3 key:=(hcg _ N).2.1;have akr:aP _ sv dH 3 ns:=(hcg _ N).2.2;obtain⟨K,G,rfl,_,_⟩:=akq;obtain⟨V,cv,rfl,_,_⟩:=akr;have hnl:ns.length=sums+1:=by rw[hcn,lQ]
    obtain⟨hv0,nv0,k0,ns0,hz1,hz2,hz3,hz4,hz5,hz6,hz7⟩:=QC hS b.1 hE
    have aoh:LI.length<=200:=by
      have h1:=zay List.length T.its;rw[zae]at h1;have h2:=QB (R.map (·.2.2.1)) (fu sums E) (fu sums (E++g))
      have h3:(R.map (·.2.2.1)).length<=(gN g).length:=by
        obtain⟨Cl,_,_,h4⟩:=T.rest;have h5:=h4.length_eq;have h6:=hC.keys.length_eq;rw[zad]at h5;omega
      have h7:=zo g;omega
    refine V1 ?_;refine Vv (ah.ZJ Hf At3 rfl) ?_;have Hg:=Sep.Ug Hf At3;refine V7 ?_;refine eP ((Sep.dh Hg At6).2.1 _ N).1 (h:=?_);refine Vb [.slice K key.length G,.slice none 0 0] ?_;refine Az (λb10 wg Hh kc=>?_);refine Tz (λwh Hi=>?_);refine V3 ?_;refine eP ((Sep.dh Hi At7).2.1 _ N).1 (h:=?_);refine V2 ?_;refine aM (λx:(OA×Nat)×Nat=>[(2,aC b2),(6,.map (some bn)),(7,xv),(8,str (fJ key)),(10,aC b10),(28,aC q),(42,.slice V ns.length cv),(43,I ns.length),(44,I x.2)]) (λx w'=>(x.2<=ns.length/\∀n∈ns.take x.2,bM n=true)/\Mw.Sep w F [blk b10 [.slice K key.length G,.slice x.1.1 (ns.take x.2).length x.1.2] 437,aY 2 1 oZ (.slice x.1.1 (ns.take x.2).length x.1.2) (ns.take x.2),blk b2 [aC bg] 127,blk bg (q9 keys sums bh) 166,dB xv LI,vV q bm D M,iD bn (R.map iH),iD bh (l.map iH),fA λw=>iC w R/\FU w C/\iC w l] w') (λx _=>ns.length-x.2) ((none,0),0) tR ⟨⟨zai _,λn W=>zas W zal⟩,(Sep.iX Hi 2 1 oZ).aJ⟩ (λx τ wi hI=>?_);obtain⟨⟨X,P⟩,j⟩:=x;obtain⟨⟨hj,hfj⟩,Hj⟩:=hI;dsimp only at hj hfj Hj;have hjl:(ns.take j).length=j:=by rw[zah];omega
    refine Lp ?_;refine Cz (λIf=>?_) (λIf=>?_)
    . have yL:j<ns.length:=oM
      obtain⟨nj,hnj⟩:=aN yL;have hbn:=Zj hE hfl oM (show nj∈fu sums (E++g) key by rw[<-hcn];exact zag hnj);have hsu:ns.take j++[nj]=ns.take (j+1):=by rw[zaq,hnj];rfl
      refine V0 ?_;refine Vv (ah.fT rfl rfl (bJ ((Sep.dh Hj At8).2.1 _ N).2.2) yL) (Vv (ah.iT rfl (Sep.aI _) (bJ ((Sep.dh Hj At8).2.1 _ N).2.2) hnj) ?_);refine Az (λb12 wj Hk kd=>?_);refine Tz (λwk Hl=>?_);refine Nx (gF Hl (cs:=dH nj) (h:=?_));refine Kz (Tn nj hbn.1 hbn.2) (λwl Hm ke=>?_);obtain⟨n1,XM⟩: ∃n1:Int,n1=if bM nj=true then nj else 0:=⟨_,rfl⟩
      obtain⟨e1,he1⟩: ∃e1:Int,e1=if bM nj=true then 0 else 50:=⟨_,rfl⟩
      rw[<-XM,<-he1];refine Cz (λIg=>?_) (λIg=>?_)
      . have hnf:bM nj≠true:=λh=>Ig (by rw[he1,zac h])
        rw[zab hnf]at he1;have S:yY keys sums E g=([],50):=ac4 aag (show nj∈fu sums (E++g) key by rw[<-hcn];exact zag hnj) hnf;refine V3 ?_;subst he1
        exact⟨(.slice none 0 0,[]),by rw[S];rfl,by rw[S];rfl,by
          rw[S,zab dC];have h1:=Sep.qJ (Y:=λw=>iC w l) Hm At9 (λw h=>h.2.2);exact(Sep.gQ (bU (zl h1.eZ.ajM.ajN hS).aJ.aZ.first) 25 2).aZ.aZ.bf⟩
      have he0:e1=0:=Decidable.of_not_not Ig
      have hnf:bM nj=true:=by
        cases h:bM nj with
        | true=>rfl
        | false=>rw[h,zab dC]at he1;omega
      rw[zac hnf]at XM;subst XM;refine V3 ?_;refine Bs Hm ([n1].flatMap oZ) (λbs wm Hn kf=>?_);refine eH Hn (news:=[n1]) At2 kJ kM (dW (λ_=>rfl) _) (h:=?_);intro v60 wn Ho;rw[hsu]at Ho;obtain⟨X2,cX2,rfl,_,_⟩:=Sep.bX Ho At2;refine Vf ?_;refine Uz (λwo Hp=>?_);refine V2 ?_;exact ak ((X2,cX2),j+1) tR ⟨⟨dO,λn W=>by
      dsimp only at W;rw[<-hsu]at W
      rcases zbh.1 W with W | W
      . exact hfj n W
      rw[zaw]at W;rw[W];exact hnf⟩,Hp.bN⟩ dO
    have hjn:j=ns.length:=oM;rw[hjn,zbo]at hfj Hj;refine V2 ?_;refine gF Hj (cs:=[.slice K key.length G,.slice X ns.length P]) (h:=?_);refine DW (i:=fJ key) (v:=agg [.slice K key.length G,.slice X ns.length P]) Hj At6 (h:=λwp Hq=>?_);rw[acZ (s:=(.slice K key.length G,.slice X ns.length P,key,ns)) (λs hs=>(T.nums s hs).2.2.1) b.1 hck]at Hq;have hrk: ∀wx,FU wx C->aP wx (.slice K key.length G) aj 3 key:=λwx h=>(h _ N).2.1;refine Dz (λSa wq Hr=>?_);refine V6 ?_;refine FGl Sa 6 (v:=agg [hv0,nv0]) rfl rfl (by rw[<-hz1];exact nZ (i:=fJ key) Hr At7 rfl rfl) kR ?_;refine gY Sa 9 Hr (h:=?_);refine dF Sa 7 [(9,false),(0,true)] Hr (TD (-1) (hz2 _ IE).1 (hz2 _ IE).2 oM oM) (h:=λy wr hy Hs kg=>?_);obtain⟨yv,Ly⟩:=y;dsimp only at hy Hs
    have hyl:Ly.length<=1:=by
      have h1:=zay List.length hy;rw[zae]at h1;have h2:=rQ ns0 k0 (-1);omega
    refine⟨sU,?_⟩;refine Dc Sa 8 [(9,false)] (Hs.iy.aJ) oM (h:=λv74 ws Ht=>⟨sU,?_⟩);refine dF Sa 10 _ Ht (TD 1 (hrk _ (by first | exact(Sep.dh Ht At8).2.1 | exact(Sep.dh Ht At9).2.1)) (by first | exact gP Ht At2 | exact gP Ht At1) oM oM) (h:=λz wt J Hu kh=>?_);obtain⟨zv,Lz⟩:=z;dsimp only at J Hu
    have hzl:Lz.length<=1:=by
      have h1:=zay List.length J;rw[zae]at h1;have h2:=rQ ns key 1;omega
    refine⟨sT,?_⟩
    first | refine Dc Sa 11 _ Hu I6 (h:=λv77 wu Hv=>⟨sT,?_⟩) | refine Dc Sa 11 _ (Hu.aJ) I6 (h:=λv77 wu Hv=>⟨sT,?_⟩)
    refine rA Sa 12 _ (h:=⟨sT,?_⟩);refine V0 ?_;have h1:=dz (Hv.aJ.bN) At1;have h2:=Sep.jN (Z:=λw=>iC w (R++[((.slice K key.length G,.slice X ns.length P,key,ns):gV)])/\FU w C/\iC w l) (h1.yF.aR) (λw g1 g2=>⟨g2.1.push (s:=(.slice K key.length G,.slice X ns.length P,key,ns)) (hrk _ g2.2.1) g1 b.1,g2.2⟩)
    exact ak ⟨v77,LI++Ly++Lz,R++[(.slice K key.length G,.slice X ns.length P,key,ns)],M⟩ tR ⟨by
      dsimp only;rw[zbp];exact ai2 _ _ (Ly++Lz) (by rw[zan,hy,J,hz7,<-hcn]) hfj,h2.jq.jq.jq.eZ.jq.jq⟩ hLt
  subst Q;obtain⟨ai3,S⟩:=T.fine hC aag hE;have O:=T.keys hC
  have aoh:LI.length<=200:=by
    have h1:=zay List.length T.its;rw[zae]at h1;have h2:=QB (R.map (·.2.2.1)) (fu sums E) (fu sums (E++g));have h3:=O.length_eq;have h7:=zo g;omega
  refine V2 ?_
  have ag8: ∀o∈LI.map (·.2),cB o.w/\o.row.length<=1000:=λo ho=>by
    rw[T.its]at ho;obtain⟨k,hk,h1,h2⟩:=ac5 ho;have h3:=hkl k (O.mem_iff.1 hk);have h4:=lQ (sums:=sums) (E:=E) (k:=k);have h5:=lQ (sums:=sums) (E:=E++g) (k:=k);refine⟨by unfold cB;omega,?_⟩
    rcases h1 with h1 | h1<;>rw[h1,zad,zae]<;>omega
  refine Nz (FN (cZ He At2) I4 (λo ho=>(ag8 o ho).1) (λo ho=>(ag8 o ho).2)) (λy wv hy Hw ki=>?_);obtain⟨yv,Ly⟩:=y;rw[<-S];rw[<-S]at hy;dsimp only at hy Hw ⊢;refine Cz (λIh=>?_) (λIh=>?_)
  . have Ii:=Ih
    have hb:(yY keys sums E g).1=[]:=by
      have h1:=Ih;rw[S]at h1 ⊢;rw[qF h1]
    refine V3 ?_;exact⟨(.slice none 0 0,[]),rfl,by rw[hb];rfl,by
    rw[zab Ii];have h1:=Sep.qJ (Y:=λw=>iC w l) Hw At7 (λw h=>h.2.2);exact(Sep.gQ (bU (zl h1.aR.jq.yF hS).aJ.aZ.first) 25 2).aZ.aZ.bf⟩
  have he0:(yY keys sums E g).2=0:=Decidable.of_not_not Ih;refine V1 ?_;refine Jr Hw At5 (h:=?_);intro q2 ww Hx;have Hx:=Sep.qJ (Y:=λw=>iC w (R++l)) (Hx.eZ.bN.bB.bN) At5 (λw h=>h.1.app h.2.2);refine V0 ?_;refine aM (λx:anc=>[(2,aC b2),(15,yv),(87,aC q2)]) (λx w'=>OJ sums E g l R x.L x.Lf x.done/\Mw.Sep w F [blk b2 [aC bg] 127,blk bg (q9 keys sums bh) 166,dB yv Ly,vV q2 bn (R.map iH) x.Lf,iD bh (x.L.map iH),fA λw=>iC w (R++l)] w') (λx _=>x.Lf.length) ⟨l,R.map iH,[]⟩ tR ⟨OJ.start hS,Hx.aR.aR⟩ (λx τ wy hI=>?_);obtain⟨L,Lf,done⟩:=x;obtain⟨hQ,Hy⟩:=hI;dsimp only at hQ Hy;refine Lp ?_;refine Sr (M5 Hy At3 (h1:=λp M wz d Hz=>?_) (h2:=λd=>?_))
  . obtain⟨⟨kv,nv,key,ns⟩,hsn,rfl,hqy,hqn⟩:=hQ.step (λs hs=>⟨(T.nums s hs).1,(T.nums s hs).2.2⟩) d
    have hLt:M.length<Lf.length:=by have:=(d).length_eq;simp only[zat]at this;omega
    have b:=(T.nums _ hsn).2.2;dsimp only at hqy hqn b;have ai4:aP _ kv aj 3 key/\aP _ nv oZ 1 ns:=(Sep.dh Hz At5 _ (zcg _ hsn)).1;obtain⟨K,G,rfl,_,_⟩:=ai4.1;obtain⟨X,P,rfl,_,_⟩:=ai4.2;have hpF: ∀t∈xR L (.slice K key.length G,.slice X ns.length P,key,ns),iA t.2.2.1:=(hQ.held.put (s:=(.slice K key.length G,.slice X ns.length P,key,ns)) b).cB;refine V1 ?_;refine Vv (ah.ZJ Hz At3 rfl) ?_;have HA:=Sep.Ug Hz At3;refine Az (λb18 wD HB kj=>?_);refine Am ?_;refine Tz (λwE HC=>?_);refine Dz (λSb wF HD=>?_);refine V6 ?_;refine TF Sb 6 _ (i:=fJ key) (v:=agg [.slice K key.length G,.slice X ns.length P]) HD At5 (h:=λwG HE=>⟨sT,?_⟩);rw[Qy (s:=(.slice K key.length G,.slice X ns.length P,key,ns)) hQ.held.cB b.1]at HE;refine V2 ?_;have hnr:aP _ (.slice X ns.length P) oZ 1 ns:=(Sep.dh HE At6 _ (zcg _ hsn)).1.2;refine Kz (WO (p:=λn=>decide (n≠0)) (fv:=.func (.func 398) #[] #[]) hnr ⟨398,[],[],rfl,eT,λx _ w' _=>ac6 x⟩) (λwH HF kk=>?_);refine Vv (ah.not rfl) (Qn ?_);refine Cd rfl (λIj=>?_) (λIj=>?_)
    . have f:(ns.any λn=>decide (n≠0))=false:=by simpa using Ij
      refine V5 ?_;refine Y9 (i:=fJ key) HF At5 (h:=λwI HG=>?_);rw[ac0 hpF b.1]at HG;refine V0 ?_;exact ak ⟨Qw (xR L (.slice K key.length G,.slice X ns.length P,key,ns)) key,M,key::done⟩ tR ⟨hqn f,HG.bN⟩ hLt
    have f:(ns.any λn=>decide (n≠0))=true:=by simpa using Ij
    refine V0 ?_;exact ak ⟨xR L (.slice K key.length G,.slice X ns.length P,key,ns),M,key::done⟩ tR ⟨hqy f,HF.bN⟩ hLt
  subst d;have akp:=hQ.end_ (λk hk=>O.mem_iff.2 hk);refine V4 ?_;exact⟨(yv,Ly),by rw[he0];rfl,hy,by
  rw[zac he0];have h1:=Sep.qJ (Y:=λw=>iC w L) Hy At5 (λw h=>h.sub λs hs=>(hQ.from_ s hs).elim (zcg _) (zck _));exact((zl h1.aR.aR.eZ.iy akp).aJ.aZ.aJ.aZ.first).bf⟩
def aiU (s:gV):Value:=agg [s.1,s.2.1]
def BJ (L:List gV):List aH:=L.flatMap λs=>iP s.2.2.2 s.2.2.1 1
def Zk (L:List gV) (s:gV):BJ (L++[s])=BJ L++iP s.2.2.2 s.2.2.1 1:=by unfold BJ;rw[zbu];simp
def Jw: ∀L:List gV,(BJ L).length<=L.length
 | []=>zbk _
 | s::L=>by
  have h:=Jw L;have S:=rQ s.2.2.2 s.2.2.1 1;unfold BJ at h ⊢;rw[zbi,zad,zat];omega
def aiV (b3:Nat) (L pre:List gV):HP:=exH λz:Value×List fH=>dx (jH (z.2.map (·.2)=BJ pre)) (dx (blk b3 [z.1] 27) (dx (dB z.1 z.2) (fA λw=>iC w L)))
def QD {j:Type} [DecidableEq j]: ∀{a b:List j},a.Nodup->a⊆b->a.length<=b.length
 | [],_,_,_=>zai _
 | x::a,b,hn,hs=>by
  rw[zfg]at hn;have S:x∈b:=hs zak
  have d:a⊆b.erase x:=λy c=>by
   have h:y≠x:=λe=>hn.1 (by rw[<-e];exact c);exact(List.mem_erase_of_ne h).2 (hs (zap _ c))
  have g:=QD hn.2 d;rw[List.length_erase_of_mem S]at g;have i:=List.length_pos_of_mem S;rw[zat];omega
def afQ (h:nD (stE sums E) L):L.length<=E.length:=by
 have c:L.map (·.2.2.1)⊆E.map (·.key):=λk g=>by
  obtain⟨s,l,rfl⟩:=zav.1 g;have S:=h.is s l;refine Classical.byContradiction λj=>?_;have a: ∀i,jV E s.2.2.1 i=0:=λi=>uX λx m e=>j (zav.2 ⟨x,m,e⟩)
  have d:stE sums E s.2.2.1=none:=by
   unfold stE;rw[zab];simp only[fu,a];simp;exact λx _=>a x
  rw[d]at S;cases S
 have b:=QD h.nd c;rw[zae,zae]at b;exact b
def Zl {keys:Nat} {d:List gV} (h:nD (stE sums E) L) (a: ∀x∈E,x.key.length=keys) (S:d.Perm L):dJ (BJ d)=(mE sums E,0):=by
 have e:BJ d=(d.map (·.2.2.1)).flatMap λk=>aaD (stE sums E k) k 1:=by
  unfold BJ;rw[List.flatMap_map,List.flatMap_def,List.flatMap_def]
  congr 1
  refine zcu λs c=>?_;rw[h.is s (S.mem_iff.1 c)];rfl
 rw[e];exact Pz a ((S.map _).symm.nodup h.nd) λk b=>(S.map _).mem_iff.2 (h.all k b)
def ac7 (S:Nat):aX prog 399 [.map (some S)] w λv c=>∃b:Nat,v=.func (.func 407) #[] #[aC b]/\True/\cO noB (blk b [.map (some S)] 164) w c:=by
 have H:=Sep.aI w;refine dL func399 ?_;refine Sr (bK H (cs:=[.map (some S)]) rfl (h:=λb d a k=>?_));refine V3 ?_;exact⟨b,rfl,trivial,a.bf⟩
def Zm {w0:Wd} {S:NP} {l Dd b1:Nat} {ro:Obj} {J:List gV->HP} {Fr:List HP} {E1:Td} (j: ∀s∈L,s.1.oneCell'=true/\s.2.1.oneCell'=true)
    (H:Mw.Sep w0 S (Mw.obj l ro::Mw.obj Dd (.deferred (some []))::J []::blk b1 [.map (some bh)] E1::iD bh (L.map iH)::Fr) w)
    (Q: ∀(pre:List gV) (x:gV) (Fr:List HP) (W:Wd),(∃r,(pre++[x]++r).Perm L)->Mw.Sep w0 S (Mw.obj l ro::Mw.obj Dd (.deferred (some []))::J pre::Fr) W->TP prog l [aiU x] W λM=>Mw.Sep w0 S (Mw.obj l ro::Mw.obj Dd (.deferred (some []))::J (pre++[x])::Fr) M):
    aX prog 407 [.func (.yield l) #[] #[],aC b1] w λ_ y=>∃C:List gV,C.Perm L/\Mw.Sep w0 S (Mw.obj l ro::Mw.obj Dd (.deferred (some []))::J C::iD bh (L.map iH)::Fr) y:=by
  refine dn func407 ?_;refine V1 ?_;refine Jr H At4 (h:=?_);intro q X D;refine V0 ?_;refine aM (λx:List gV×List Ent=>[(0,.func (.yield l) #[] #[]),(1,aC b1),(6,aC q)]) (λx y=>(∃r,(x.1++r).Perm L/\x.2.Perm (r.map iH))/\Mw.Sep w0 S (Mw.obj l ro::Mw.obj Dd (.deferred (some []))::J x.1::blk b1 [.map (some bh)] E1::vV q bh (L.map iH) x.2::Fr) y) (λx _=>x.2.length) ([],L.map iH) tR ⟨⟨L,List.Perm.refl _,List.Perm.refl _⟩,D⟩ (λx τ Y N=>?_);obtain⟨pre,K⟩:=x;obtain⟨⟨r,b,d⟩,m⟩:=N;dsimp only at b d m;refine Lp ?_;refine Sr (M5 m At4 (h1:=λp e Z a z=>?_) (h2:=λa=>?_))
  . have o:e.length<K.length:=by have:=(a).length_eq;simp only[zat]at this;omega
    obtain⟨s,v,P,rfl,O⟩:=Ju ((a).symm.trans d)
    have c:(pre++[s]++v).Perm L:=by
      rw[zbp];exact(List.Perm.append_left pre P.symm).trans b
    have u:s∈L:=c.mem_iff.1 (zcg _ (zck _ (zaw.2 rfl)));obtain⟨k,n,key,ns⟩:=s;obtain⟨g,i⟩:=j _ u;dsimp only at g i;refine V1 ?_;refine Vv (ah.ZJ z At4 rfl) ?_;have R:=Sep.Ug z At4;refine Vx ?_;refine Az (λT F E V=>?_);refine iF E (us:=[k,n]) (hv:=by simp[g,i]) (h:=λwb A=>?_);refine V1 ?_;refine gF A (cs:=[k,n]) (h:=?_);refine afZ rfl (Q pre (k,n,key,ns) _ _ ⟨v,c⟩ (A.bN)) rfl rfl (λwc G=>?_);refine O1 ?_;refine Qn (Cd rfl (λf=>?_) (λf=>?_))
    . exact zas f dC
    refine V0 ?_;exact ak (pre++[(k,n,key,ns)],e) tR ⟨⟨v,c,O⟩,G⟩ o
  subst a
  have t:r=[]:=by
    have:=d.length_eq;rw[zae]at this;exact zbf this.symm
  subst t;rw[zbt]at b;refine V1 ?_;exact⟨pre,b,(Sep.agG (m.bB.bN) At3)⟩
theorem Zn {keys:Nat} (hp:(dx (blk bg (q9 keys sums bh) 166) (FX bh sums E)).ok F w) (hn:E.length<=200) (Z: ∀x∈E,x.key.length=keys) (XO:sums<=16):
    aX prog 391 [aC bg] w λu w'=>∃x:Value×List fH,u=x.1/\x.2.map (·.2)=mE sums E/\cO F (dx (dB x.1 x.2) (dx (blk bg (q9 keys sums bh) 166) (FX bh sums E))) w w':=by
  have G1:=(Sep.dA hp).bW;obtain⟨L,v,H⟩:=Qz G1.aJ;have hLl:=afQ v;refine dL func391 ?_;refine Kz (MZ (H.obj At2)) (λw4 H4 k3=>?_);refine Qn (Cd rfl (λA=>?_) (λA=>?_))
  . exact Bool.noConfusion A
  refine Az (λN w8 H8 k7=>?_);refine Nz (ac7 bh) (λb1 wa _ Ha ka=>?_);refine V0 ?_;have t: ∀s∈L,s.2.2.1.length<=16/\s.2.2.2.length<=17:=λs m=>⟨(v.fit s m).2,by rw[Mq (v.is s m),lQ];omega⟩
  have e: ∀s∈L,s.1.oneCell'=true/\s.2.1.oneCell'=true:=λs m=>by
    have S:=(Sep.dh Ha At2 s m).1;obtain⟨_,_,e1,_⟩:=S.1;obtain⟨_,_,e2,_⟩:=S.2;rw[e1,e2];exact⟨rfl,rfl⟩
  have HJ:Mw.Sep w F (aiV N L []::[blk b1 [.map (some bh)] 164,iD bh (L.map iH),blk bg (q9 keys sums bh) 166]) wa:=by
    have S:=(Sep.gQ (bU Ha.aR) 25 2).aZ.aZ.aR.aZ;exact Sep.tZ (p:=λz:Value×List fH=>dx (jH (z.2.map (·.2)=BJ [])) (dx (blk N [z.1] 27) (dx (dB z.1 z.2) (fA λw=>iC w L)))) (.slice none 0 0,[]) (Sep.aZ (Sep.jY rfl S))
  refine ady (gf:=407) (lb:=[aC b1]) aiU (λpre=>∃r,(pre++r).Perm L) (λxs=>xs.Perm L) (aiV N L) _ [iD bh (L.map iH),blk bg (q9 keys sums bh) 166] HJ rfl rfl ?_ ?_ ?_
  . intro l D ro rb pre x Fr W K R
    obtain⟨r,J⟩:=K;have b:x∈L:=J.mem_iff.1 (zcg _ (zck _ (zaw.2 rfl)))
    have hpl:pre.length<=L.length:=by
      have:=J.length_eq;rw[zad,zad]at this;omega
    obtain⟨kv,nv,key,ns⟩:=x;obtain⟨C,G⟩:=e _ b;obtain⟨k,f⟩:=t _ b;dsimp only at C G k f;refine V0 ?_;refine MR R (h:=λb17 wb Hb kb=>?_);refine iF Hb (us:=[kv,nv]) (hv:=by simp[C,G]) (h:=λwc Hc=>?_);refine yj (qO ?_);refine⟨[blk _ [kv,nv] 437],Sep.F4 Hc,λWB HB=>?_⟩;obtain⟨⟨xv,j⟩,O⟩:=Sep.ex0 (Sep.bB HB);obtain⟨a,g⟩:=Sep.ru O.bW;replace g:=g.bW.aJ.bW;dsimp only at a g
    have q:j.length<=200:=by
      have S:=zay List.length a;rw[zae]at S;have Y:=Jw pre;omega
    refine Dz (λM wd T=>?_);refine V2 ?_;refine dF M 2 [(0,false)] T (TD 1 (Sep.dh T At1 _ b).1.1 (Sep.dh T At1 _ b).1.2 dO dO) (h:=λy we c He kc=>?_);obtain⟨yv,n⟩:=y;dsimp only at c He
    have hyl:n.length<=1:=by
      have S:=zay List.length c;rw[zae]at S;have Y:=rQ ns key 1;omega
    refine⟨sL,?_⟩;refine Dc M 3 _ He oM (h:=λv18 wf Hf=>?_);obtain⟨X,V,rfl,_,_⟩:=Sep.bX (Hf.bW) At0;refine⟨sT,?_⟩;refine mJ M 4 _ Hf (h:=λwg Hg=>⟨sT,?_⟩);refine fZ M kR ?_;refine xC (qO ?_);have S:=Hg.aZ.aJ.aZ;exact(Sep.bB (Sep.tZ (p:=λz:Value×List fH=>dx (jH (z.2.map (·.2)=BJ (pre++[((kv,nv,key,ns):gV)]))) (dx (blk N [z.1] 27) (dx (dB z.1 z.2) (fA λw=>iC w L)))) (.slice X (aW (j++n)).length V,j++n) (Sep.aZ (Sep.jY (by dsimp only;rw[zan,a,c,Zk]) S)))).bN.F4
  . intro l D ro W R c
    exact Zm e R c
  intro D wh xs i HD;obtain⟨⟨xv,j⟩,P⟩:=Sep.ex0 HD.aJ;obtain⟨a,Q⟩:=Sep.ru P.bW;have Hh:=Q.bW.aJ.bW;dsimp only at a Hh
  have q:j.length<=200:=by
    have S:=zay List.length a;rw[zae]at S;have Y:=Jw xs;have h3:=i.length_eq;omega
  have ag8: ∀o∈j.map (·.2),cB o.w/\o.row.length<=1000:=λo d=>by
    rw[a]at d;obtain⟨s,m,d⟩:=zcc.1 d;have S:=zq d;have Y:=t s (i.mem_iff.1 m);exact⟨by rw[S.2];exact⟨dC,dC⟩,by rw[S.1,zad,zae];omega⟩
  refine Nz (FN (cZ Hh At0) I4 (λo d=>(ag8 o d).1) (λo d=>(ag8 o d).2)) (λy wi c Hi kd=>?_);obtain⟨yv,n⟩:=y;rw[a,Zl v Z i]at c;dsimp only at c Hi ⊢;refine O7 ?_;refine Qn (Lu (agd Hi At4 (hR:=λwj Hj=>?_)));exact⟨(yv,n),rfl,c,by
  have S:=Hj;exact((zl (S.jq.jq.eZ) v).aJ.aZ.aJ.aZ.first).bf⟩
def Xb {t:Type} {r:t->LV} {k:Nat} [q:jl r k] {A:OA} {l:List t} {c j:Nat} (h:aP w (.slice A l.length c) r k l) (p:j<=l.length):aP w (.slice (if c=j then A else A.map (·.add (j*k))) (l.length-j) (c-j)) r k (l.drop j):=by
 obtain⟨m,n,e,⟨d,g⟩,i⟩:=h;injection e with a o b
 subst a;subst b;have S:=LH (j:=l.length-j) i d g oM;rw[show l.length-(l.length-j)=j from oM]at S;exact S
def Aq (w:Wd) (F:NP) (v:Value) (m:List aH):Prop:=∃r,∀w1,aS F w w1->aP w1 v aD 2 r/\gM w1 r m
def Aq.is {m:List aH} (h:Aq w F v m): ∀S,aS F w S->dM S v m:=λS a=>by
 obtain⟨r,b⟩:=h;exact⟨r,(b S a).1,(b S a).2⟩
theorem OL {bk bg bh keys sums:Nat} {m:List aH} (hp:(dx (blk bk [aC bg,I keys] 132) (dx (blk bg (q9 keys sums bh) 166) (FX bh sums E))).ok F w)
    (hm:Aq w F v m) (hT: ∀S,aS F w S->gK S) (hkm:keys<=16) (XO:sums<=16) (W: ∀o∈m,cB o.w/\o.row.length=keys+sums/\iA o.row) (hn:m.length<=100) (hE:xq sums E=true):
    aX prog 388 [aC bk,v] w λu w'=>∃x:Value×List fH,u=.tuple #[x.1,I (yY keys sums E (m.map (fV keys))).2]/\x.2.map (·.2)=(yY keys sums E (m.map (fV keys))).1/\
      cO F (dx (dB x.1 x.2) (dx (blk bk [aC bg,I keys] 132) (dx (blk bg (q9 keys sums bh) 166) (FX bh sums (if(yY keys sums E (m.map (fV keys))).2=0 then E++m.map (fV keys)else E))))) w w':=by
  have H:=(Sep.dA hp).bW;obtain⟨r,p⟩:=hm;obtain⟨⟨A,c,rfl,⟨T,hc'⟩,_⟩,n⟩:=p w (aS.refl _ _);have EO:=n.len;refine dn func388 ?_;refine V6 ?_;refine aM (λx:(OA×Nat)×List xA×Nat=>[(0,aC bk),(6,.slice x.1.1 x.2.1.length x.1.2),(9,.slice A r.length c),(10,I r.length),(11,I x.2.2)]) (λx w'=>(x.2.2<=r.length/\x.2.1.map (·.2.2)=(m.take x.2.2).map (fV keys)/\∀S,aS F w S->zh S x.2.1)/\Mw.Sep w F [aY 427 3 qE (.slice x.1.1 x.2.1.length x.1.2) x.2.1,blk bk [aC bg,I keys] 132,dx (blk bg (q9 keys sums bh) 166) (FX bh sums E)] w') (λx _=>r.length-x.2.2) ((none,0),[],0) tR ⟨⟨zai _,rfl,λS _ z g=>zas g zal⟩,Sep.iX H 427 3 qE⟩ (λx τ w8 hI=>?_);obtain⟨⟨X,cX⟩,Z,i⟩:=x;obtain⟨⟨hi,d,t⟩,G⟩:=hI;dsimp only at hi d t G
  have hZl:Z.length=i:=by
    have a:=zay List.length d;rw[zae,zae,zah]at a;omega
  refine Lp ?_;refine Cz (λIe=>?_) (λIe=>?_)
  . have yL:i<r.length:=oM
    obtain⟨o,j⟩:=aN (l:=m) (show i<m.length from oM);obtain⟨aqF,aqG,aqH⟩:=W o (zag j);obtain⟨vo,N,hso⟩:=n.get j;obtain⟨V,R,rfl,⟨hcv,aok⟩,_⟩:=hso
    have q: ∀S,aS F w S->aP S (.slice V o.row.length R) aj 3 o.row:=λS a=>by
      obtain⟨vo2,b,M⟩:=(p S a).2.get j;rw[N]at b;injection b with b
      injection b with e1 e2
      rw[e1];exact M
    obtain⟨z,g⟩: ∃z:xA,z=(.slice V keys R,.slice (if R=keys then V else V.map (·.add (keys*3))) (o.row.length-keys) (R-keys),fV keys o):=⟨_,rfl⟩
    have O: ∀S,aS F w S->zh S (Z++[z]):=λS a y D=>by
      rcases zbh.1 D with D | D
      . exact t S a y D
      rw[zaw]at D;subst D;rw[g];refine⟨?_,Xb (q S a) oM⟩;have k:=Db (m:=keys) (q S a) oM;exact k
    have hzm:(Z++[z]).map (·.2.2)=(m.take (i+1)).map (fV keys):=by rw[zan,d,zaq,j,g,zan];rfl
    refine V0 ?_;refine Vv (ah.fT rfl rfl (bJ (p _ G.au).1) yL) (Vv (ah.iT rfl (Sep.aI _) (bJ (p _ G.au).1) N) ?_);refine Az (λb8 wa Ha ka=>?_);refine Tz (λwb Hb=>?_);refine Dz (λQ wc Hc=>?_);refine V7 ?_;refine GS (Gn rfl (λ_=>ah.sliceTo (h:=keys) rfl rfl oM) ?_);refine V6 ?_;refine GS (Gn rfl (λ_=>ah.sliceFrom (l:=keys) rfl rfl oM) ?_);refine V2 ?_;refine Gp Q 17 rfl rfl (λ_=>ah.build (out:=qE z) (by subst g;exact(bQ.one rfl rfl rfl sM rfl (bQ.one rfl rfl rfl sM rfl (bQ.one rfl rfl rfl sM rfl bQ.nil))))) (Gz Q 18 _ Hc ([z].flatMap qE) (h:=λbs wd Hd=>⟨sT,?_⟩));refine gZ Q 19 _ Hd (news:=[z]) At1 kJ kM (by subst g;exact(λu hu=>zaz.1 (show([_].flatMap qE).all Value.oneCell'=true from rfl) u hu)) (h:=λv34 we He=>?_);obtain⟨X2,Y,rfl,_,_⟩:=Sep.bX He At1;refine⟨sT,?_⟩;refine rA Q 20 _ (h:=⟨sT,?_⟩);refine V2 ?_;exact ak ((X2,Y),Z++[z],i+1) tR ⟨⟨dO,hzm,O⟩,He.bN⟩ dO
  have L:i=m.length:=oM;rw[L,zbo]at d;refine V5 ?_;obtain⟨F0,hpF,s,f,C⟩:=Sep.BA G At1;have J: ∀S,aS F0 _ S->aS F w S:=λS a=>Mw.aS.into G.au s a
  have P: ∀z∈Z,∃o∈m,z.2.2=fV keys o:=λz g=>by
    have a:z.2.2∈Z.map (·.2.2):=zdj g;rw[d]at a;obtain⟨o,j,e⟩:=zav.1 a;exact⟨o,j,e.symm⟩
  refine aO (Xa hpF (λS a=>by obtain⟨Fq,k⟩:=f S a;exact nH k) (λS a=>t S (J S a)) (λS a=>hT S (J S a)) hkm XO (λz g=>by
      obtain⟨o,j,e⟩:=P z g;rw[e];exact λc T=>(W o j).2.2 c (zcj T)) (λz g=>by
      obtain⟨o,j,e⟩:=P z g;rw[e];exact⟨(W o j).1,λc T=>((W o j).2.2 c (zeq T)).1⟩) oM hE) rfl rfl (λv' wf hv'=>?_)
  obtain⟨x,rfl,hx,hk1,F1,K,hs1⟩:=hv';rw[d]at hx K ⊢;have Hf:=C _ F1 _ hk1 K hs1;refine V4 ?_;exact⟨x,rfl,hx,(Hf.bN.aJ.bW.aJ.aR.aZ.aJ.aZ).bf⟩
def Ni {t keys:Nat} (n:(dx (blk t [aC bg,I keys] 132) (dx (blk bg (q9 keys sums bh) 166) (FX bh sums E))).ok F w) (m:E.length<=200) (S: ∀x∈E,x.key.length=keys) (e:sums<=16):
    aX prog 389 [aC t] w λu p=>∃x:Value×List fH,u=x.1/\x.2.map (·.2)=mE sums E/\cO F (dx (dB x.1 x.2) (dx (blk t [aC bg,I keys] 132) (dx (blk bg (q9 keys sums bh) 166) (FX bh sums E)))) w p:=by
  have H:=(Sep.dA n).bW;refine dL func389 ?_;refine V5 ?_;obtain⟨q,b,l,h⟩:=H.bG At1;refine aO (Zn b m S e) rfl rfl (λv r g=>?_);obtain⟨x,rfl,o,a,i,c,d⟩:=g;have j:=h _ i _ a c d;refine V1 ?_;exact⟨x,rfl,o,(j.aJ.bW.aJ.aR.aZ.aJ.aZ).bf⟩
end Go.Proofs.Mw
