/-
 What a keeper of groups holds,as pieces;the states that are put and taken out. No program stands here.
-/
import Derived.Test.YtbkjpdboaclopaaGreatDoorNd25
set_option linter.all false
set_option maxRecDepth 20000
namespace Go.Proofs.Mw
open Go.Lib Go.Proofs.Tryz
attribute [local irreducible] FW FL FG FGn jJ jO fC lJ Qfn Gives
def GA (w:Wd) (C:List vL):Prop:=∀c∈C,gJ w c.b [c.kv,c.sv] 435/\aJ w c.kv ah 3 c.key/\aJ w c.sv bZ 3 c.ns
def Yh: ∀{C:List vL} {F:NP} {w:Wd},(je (C.map NQ)).ok F w->GA w C
 | [],_,_,_=>λc hc=>zas hc zam
 | c::C,F,w,⟨F1,F2,_,_,⟨G1,G2,_,_,hb,G3,G4,_,_,h1,h2⟩,h3⟩=>λd hd=>by
  rcases zbb.1 hd with rfl | hd
  .exact⟨hb.2,mW h1,mW h2⟩
  exact Yh h3 d hd
structure mP (f:List aC->Option (List Int)) (L:List gB):Prop where
 nd:(L.map (·.2.2.1)).Nodup
 is: ∀s∈L,f s.2.2.1=some s.2.2.2
 all: ∀k,f k≠none->k∈L.map (·.2.2.1)
 fit: ∀s∈L,gI s.2.2.1/\s.2.2.1.length<=16
def UG (f:List aC->Option (List Int)) (k:List aC) (o:Option (List Int)):List aC->Option (List Int):=λx=>if x=k then o else f x
def xW (L:List gB) (s:gB):List gB:=if s.2.2.1∈L.map (·.2.2.1)then L.map (λt=>if t.2.2.1=s.2.2.1 then s else t)else L++[s]
def RA (L:List gB) (k:List aC):List gB:=L.filter λt=> !decide (t.2.2.1=k)
def RB {a b:List aC} (ha:gI a) (hb:gI b):(eU a==eU b)=decide (a=b):=by
 rw[zdu,beq_iff_eq,decide_eq_true_iff];exact⟨Db ha hb,λe=>by rw[e]⟩
def GD {k:List aC} (hk:gI k): ∀{L:List gB},(∀s∈L,gI s.2.2.1)->mq (L.map ig) (eU k)=(L.find? λs=>decide (s.2.2.1=k)).map λs=>agg [s.1,s.2.1]
 | [],_=>rfl
 | s::L,h=>by
  have ih:=GD hk (L:=L) λt ht=>h t (zau _ ht);have h1:=RB (h s zao) hk;unfold mq at ih ⊢;rw[zav,zch,zch,show((ig s).1==eU k)=decide (s.2.2.1=k)from h1];cases hb:decide (s.2.2.1=k)with
  | true=>rfl
  | false=>exact ih
variable {f:List aC->Option (List Int)} {L:List gB} {k:List aC} {ns:List Int} {s:gB}
def mP.fits (h:mP f L): ∀s∈L,gI s.2.2.1:=λs hs=>(h.fit s hs).1
def mP.get (h:mP f L) (hk:gI k) (hf:f k=some ns): ∃s∈L,s.2.2.1=k/\s.2.2.2=ns/\mq (L.map ig) (eU k)=some (agg [s.1,s.2.1]):=by
 have hm:=h.all k (by rw[hf];exact λh=>nomatch h);rw[GD hk h.fits];cases hx:L.find? λs=>decide (s.2.2.1=k)with
 | none=>
  obtain⟨s,hs,e⟩:=zar.1 hm;exact zas (zap e) (zfp.1 hx s hs)
 | some s=>
  have hs:=zev hx;have e0:=List.find?_some hx;have e:s.2.2.1=k:=zbd e0;refine⟨s,hs,e,?_,rfl⟩;have:=h.is s hs;rw[e,hf]at this;injection this with this
  exact this.symm
def mP.ard (h:mP f L) (hk:gI k) (hf:f k=none):mq (L.map ig) (eU k)=none:=by
 rw[GD hk h.fits,zfn,zfp];intro s hs he;have:=h.is s hs;rw[zbd he,hf]at this;cases this
def NY:(xW L s).map (·.2.2.1)=if s.2.2.1∈L.map (·.2.2.1)then L.map (·.2.2.1)else L.map (·.2.2.1)++[s.2.2.1]:=by
 unfold xW
 split
 .rw[zdj]
  refine zcr λt _=>?_;show(if t.2.2.1=s.2.2.1 then s else t).2.2.1=t.2.2.1
  split
  .rename_i e;exact e.symm
  rfl
 rw[zak];rfl
def JV {t:gB} (ht:t∈xW L s):t=s\/(t∈L/\t.2.2.1≠s.2.2.1):=by
 unfold xW at ht
 split at ht
 .obtain⟨u,hu,rfl⟩:=zar.1 ht
  split
  .exact .inl rfl
  rename_i e;exact .inr ⟨hu,e⟩
 rename_i hm
 rcases zbk.1 ht with h | h
 .exact .inr ⟨h,λe=>hm (zar.2 ⟨t,h,e⟩)⟩
 exact .inl (zaw.1 h)
def mP.put (h:mP f L) (hs:gI s.2.2.1/\s.2.2.1.length<=16):mP (UG f s.2.2.1 (some s.2.2.2)) (xW L s):=by
 refine⟨?_,λt ht=>?_,λk hk=>?_,λt ht=>?_⟩
 .rw[NY]
  split
  .exact h.nd
  rename_i hm;rw[zep];exact⟨h.nd,sM,λa ha b hb e=>by rw[zaw]at hb;subst hb;subst e;exact hm ha⟩
 .unfold UG
  rcases JV ht with rfl | ⟨h1,h2⟩
  .rw[zac rfl]
  rw[zaa h2];exact h.is t h1
 .rw[NY]
  unfold UG at hk
  by_cases e:k=s.2.2.1
  .subst e
   split
   .assumption
   exact zcv _ (zaw.2 rfl)
  rw[zaa e]at hk;have:=h.all k hk
  split
  .exact this
  exact zco _ this
 rcases JV ht with rfl | ⟨h1,_⟩
 .exact hs
 exact h.fit t h1
def mP.del (h:mP f L):mP (UG f k none) (RA L k):=by
 unfold RA;refine⟨h.nd.sublist (List.filter_sublist.map _),λt ht=>?_,λx hx=>?_,λt ht=>h.fit t (zcf.1 ht).1⟩
 .obtain⟨h1,h2⟩:=zcf.1 ht
  have h3: ¬t.2.2.1=k:=by simpa using h2
  unfold UG;rw[zaa h3];exact h.is t h1
 unfold UG at hx
 by_cases e:x=k
 .rw[zac e]at hx;exact zas rfl hx
 rw[zaa e]at hx;obtain⟨t,ht,rfl⟩:=zar.1 (h.all x hx);exact zar.2 ⟨t,zcf.2 ⟨ht,by simpa using e⟩,rfl⟩
def mP.congr {g:List aC->Option (List Int)} (h:mP f L) (e: ∀k,g k=f k):mP g L:=by
 have :g=f:=funext e;rw[this];exact h
def RD (hF: ∀s∈L,gI s.2.2.1) (hs:gI s.2.2.1):Bh (L.map ig) (eU s.2.2.1) (agg [s.1,s.2.1])=(xW L s).map ig:=by
 unfold Bh xW
 have hn:(mq (L.map ig) (eU s.2.2.1)).isSome=true↔s.2.2.1∈L.map (·.2.2.1):=by
  rw[GD hs hF,Option.isSome_map,List.find?_isSome];constructor
  .rintro⟨t,ht,e⟩;exact zar.2 ⟨t,ht,zbd e⟩
  intro hm;obtain⟨t,ht,e⟩:=zar.1 hm;exact⟨t,ht,zap e⟩
 by_cases hm:s.2.2.1∈L.map (·.2.2.1)
 .rw[zac (hn.2 hm),zac hm,zdj,zdj]
  refine zcr λt ht=>?_;show(if(ig t).1=eU s.2.2.1 then(eU s.2.2.1,agg [s.1,s.2.1])else ig t)=ig (if t.2.2.1=s.2.2.1 then s else t)
  by_cases e:t.2.2.1=s.2.2.1
  .rw[zac e,zac (show(ig t).1=_ by unfold ig;rw[e])];rfl
  rw[zaa e,zaa (show ¬(ig t).1=eU s.2.2.1 from λe2=>e (Db (hF t ht) hs e2))]
 rw[zaa (λe=>hm (hn.1 e)),zaa hm,zak];rfl
def aeR (hF: ∀s∈L,gI s.2.2.1) (hs:gI s.2.2.1) (hn:s.2.2.1∉L.map (·.2.2.1)):Bh (L.map ig) (eU s.2.2.1) (agg [s.1,s.2.1])=(L++[s]).map ig:=by
 rw[RD hF hs];unfold xW;rw[zaa hn]
def aeS (hF: ∀s∈L,gI s.2.2.1) (hk:gI k):YC (L.map ig) (eU k)=(RA L k).map ig:=by
 unfold YC RA;rw[List.filter_map]
 congr 1
 refine List.filter_congr λt ht=>?_;show(!((ig t).1==eU k))=_
 rw[show((ig t).1==eU k)=decide (t.2.2.1=k)from RB (hF t ht) hk]
def GH (bh sums:Nat) (E:List bD):HP:=exH λL:List gB=>star (gV bh (L.map ig)) (star (fP λw=>gK w L) (jk (mP (stE sums E) L)))
variable {w:Wd} {bh sums:Nat} {E:List bD}
def zm {w0:Wd} {S:NP} {rs:List HP} {L:List gB} (H:Mw.Sep w0 S (fP (λw=>gK w L)::gV bh (L.map ig)::rs) w) (hL:mP (stE sums E) L):Mw.Sep w0 S (GH bh sums E::rs) w:=
 Sep.tY (p:=λL:List gB=>star (gV bh (L.map ig)) (star (fP λw=>gK w L) (jk (mP (stE sums E) L)))) L ((Sep.jP hL H).aF.aR.aF.aR)
def RF {w0:Wd} {S:NP} {rs:List HP} (H:Mw.Sep w0 S (GH bh sums E::rs) w): ∃L,mP (stE sums E) L/\Mw.Sep w0 S (fP (λw=>gK w L)::gV bh (L.map ig)::rs) w:=by
 obtain⟨L,G2⟩:=Sep.ex0 H;obtain⟨hS,G3⟩:=Sep.ru (G2.bE.aF.bE.aF);exact⟨L,hS,G3⟩
def aeT (sums:Nat):mP (stE sums []) []:=⟨List.nodup_nil,λs hs=>zas hs zam,λk hk=>zas (by unfold stE;rw[zaa];simp[dZ,jL]) hk,λs hs=>zas hs zam⟩
def gK.sub {w:Wd} {M:List gB} (h:gK w M) (hs: ∀s∈L,s∈M):gK w L:=λs hm=>h s (hs s hm)
def gK.app {M:List gB} (h:gK w L) (h2:gK w M):gK w (L++M):=λs hm=>(zbk.1 hm).elim (h s) (h2 s)
def gK.push {s:gB} (h:gK w L) (h1:aJ w s.1 ah 3 s.2.2.1) (h2:aJ w s.2.1 oQ 1 s.2.2.2) (h3:gI s.2.2.1):gK w (L++[s]):=h.app λt ht=>by
 rw[zaw]at ht;subst ht;exact⟨⟨h1,h2⟩,h3⟩
def NZ (sums:Nat) (E l:List bD) (done:List (List aC)):List aC->Option (List Int):=λk=>if k∈done then stE sums (E++l) k else stE sums E k
variable {l:List bD}
def ahK (k:List aC):NZ sums E l [] k=stE sums E k:=zaa zam
def ahL {done:List (List aC)} (hd: ∀k∈fU l,k∈done) (k:List aC):stE sums (E++l) k=NZ sums E l done k:=by
 unfold NZ
 split
 .rfl
 rename_i h;exact ad3 λhk=>h (hd k hk)
def RG {done:List (List aC)} {o:Option (List Int)} (ho:o=stE sums (E++l) k) (x:List aC):NZ sums E l (k::done) x=UG (NZ sums E l done) k o x:=by
 unfold NZ UG;show(if x∈k::done then stE sums (E++l) x else stE sums E x)=if x=k then o else if x∈done then stE sums (E++l) x else stE sums E x
 by_cases e:x=k
 .subst e;rw[zac zao,zac rfl,ho]
 rw[zaa e]
 by_cases hm:x∈done
 .rw[zac hm,zac (zau _ hm)]
 rw[zaa hm,zaa (λh=>(zbb.1 h).elim e hm)]
def aeU {x:bD} (hw:fits x.w) (hv: ∀c∈x.vals,fits c.n) (i:Nat): -85070591730234615865843651857942052864<=FJ x i/\FJ x i<=85070591730234615865843651857942052864:=by
 unfold FJ
 split
 .unfold fits at hw;omega
 split
 .omega
 refine CZ hw ?_;rw[zaz];cases hc:x.vals[i-1]? with
 | none=>exact⟨dC,dC⟩
 | some c=>exact hv c (zag hc)
def aeV (h: ∀x∈l,fits x.w/\∀c∈x.vals,fits c.n) (k:List aC) (i:Nat): -(85070591730234615865843651857942052864*(l.length:Int))<=jL l k i/\jL l k i<=85070591730234615865843651857942052864*(l.length:Int):=by
 induction l with
 | nil=>exact⟨by simp[jL],by simp[jL]⟩
 | cons x l ih=>
  have h1:=ih λy hy=>h y (zau _ hy);have h2:=aeU (h x zao).1 (h x zao).2 i;rw[jL,zaq]
  split<;>omega
def aaJ (hE:xw sums E=true) (h: ∀x∈l,fits x.w/\∀c∈x.vals,fits c.n) (hn:l.length<=1000) {n:Int} (hm:n∈dZ sums (E++l) k): -3138550867693340381917894711603833208051177722232017256448<=n/\n<3138550867693340381917894711603833208051177722232017256448:=by
 unfold dZ at hm;obtain⟨i,hi,rfl⟩:=zar.1 hm;rw[zeo]at hi;have h1:=zbd (uZ.1 hE k i oM);have h2:=aeV h k i;rw[uX];omega
structure N7 (sums:Nat) (E l:List bD) (C:List vL) (Ln:List gB) (Lf:List Ent) (LI:List Held):Prop where
 rest: ∃Cl:List vL,(∀c∈Cl,c∈C)/\Lf.Perm (Cl.map UD)/\(C.map (·.key)).Perm (Ln.map (·.2.2.1)++Cl.map (·.key))
 nums: ∀s∈Ln,s.2.2.2=dZ sums (E++l) s.2.2.1/\(∀n∈s.2.2.2,aY n=true)/\gI s.2.2.1/\s.2.2.1.length<=16
 its:LI.map (·.2)=(Ln.map (·.2.2.1)).flatMap λk=>iG (dZ sums E k) k (-1)++iG (dZ sums (E++l) k) k 1
def JW {α β:Type} {f:α->β} {L:List α} {p:β} {L':List β} (h:(p::L').Perm (L.map f)): ∃c Lr,L.Perm (c::Lr)/\p=f c/\L'.Perm (Lr.map f):=by
 obtain⟨c,hc,e⟩:=zar.1 (h.mem_iff.1 zao);obtain⟨s,t,dK⟩:=List.append_of_mem hc;have hp:L.Perm (c::(s++t)):=by rw[dK];exact List.perm_middle
 refine⟨c,s++t,hp,e.symm,?_⟩;have h2:=h.trans (hp.map f);rw[zav,e]at h2;exact(List.perm_cons p).1 h2
variable {C:List vL} {K:List (List aC)} {Ln:List gB} {LI:List Held}
def N7.step {D0:List Ent} {Lf Lf':List Ent} {p:Ent} (h:N7 sums E l C Ln Lf LI) (hC:aeO sums (E++l) K C D0) (hK:K.Nodup) (hkl: ∀k∈K,k.length<=16) (hp:Lf.Perm (p::Lf')):
    ∃c:vL,c∈C/\p=UD c/\(c.key∉Ln.map (·.2.2.1))/\c.ns=dZ sums (E++l) c.key/\(gI c.key/\c.key.length<=16)/\∀(kv nv:Value) (LI':List Held),LI'.map (·.2)=iG (dZ sums E c.key) c.key (-1)++iG (dZ sums (E++l) c.key) c.key 1->(∀n∈c.ns,aY n=true)->N7 sums E l C (Ln++[(kv,nv,c.key,c.ns)]) Lf' (LI++LI'):=by
  obtain⟨Cl,h1,h2,h3⟩:=h.rest;obtain⟨c,Cr,hq,rfl,hL⟩:=JW (hp.symm.trans h2);have hcC:c∈C:=h1 c (hq.mem_iff.2 zao);have hnd:(C.map (·.key)).Nodup:=hC.keys.symm.nodup hK;have h4:(C.map (·.key)).Perm (Ln.map (·.2.2.1)++c.key::Cr.map (·.key)):=h3.trans (List.Perm.append_left _ (hq.map _));have h5:(Ln.map (·.2.2.1)++c.key::Cr.map (·.key)).Nodup:=h4.nodup hnd;have hkc:c.key.length<=16:=hkl _ (hC.keys.mem_iff.1 (zdp hcC));refine⟨c,hcC,rfl,λhm=>?_,hC.nums c hcC,⟨hC.fit c hcC,hkc⟩,λkv nv LI' hI hf=>⟨⟨Cr,λd hd=>h1 d (hq.mem_iff.2 (zau _ hd)),hL,?_⟩,λs hs=>?_,?_⟩⟩
  . exact(zep.1 h5).2.2 _ hm _ zao rfl
  . rw[zak,zbm];exact h4
  . rcases zbk.1 hs with hs | hs
    . exact h.nums s hs
    rw[zaw]at hs;subst hs;exact⟨hC.nums c hcC,hf,hC.fit c hcC,hkc⟩
  rw[zak,zak,zbv,h.its,hI];simp
variable {D:List Ent}
def N7.start (hC:aeO sums (E++l) K C D):N7 sums E l C [] D []:=
 ⟨⟨C,λ_ h=>h,hC.data,List.Perm.refl _⟩,λs hs=>zas hs zam,rfl⟩
def N7.keys {sums:Nat} {E l:List bD} (h:N7 sums E l C Ln [] LI) (hC:aeO sums (E++l) K C D):(Ln.map (·.2.2.1)).Perm K:=by
 obtain⟨Cl,_,h2,h3⟩:=h.rest
 have :Cl=[]:=by
  have:=h2.length_eq;rw[zae]at this;exact zbg this.symm
 subst this;rw[zci,zbt]at h3;exact h3.symm.trans hC.keys
def N7.fine {keys:Nat} (h:N7 sums E l C Ln [] LI) (hC:aeO sums (E++l) (fU l) C D) (hm:(l.all λx=>qA keys sums x)=true) (hE:xw sums E=true):xw sums (E++l)=true/\y5 keys sums E l=cO (LI.map (·.2)):=by
 have hp:=h.keys hC
 have hf:xw sums (E++l)=true:=(ad6 hE).2 λk hk n hn=>by
  obtain⟨s,hs,e⟩:=zar.1 (hp.mem_iff.2 hk);obtain⟨h1,h2,_⟩:=h.nums s hs;rw[<-e]at hn;exact h2 n (by rw[h1];exact hn)
 refine⟨hf,?_⟩;unfold y5;rw[zaa (by rw[hm];decide),zaa (by rw[hf];decide),h.its,ZY hp]
def aeW {keys:Nat} {n:Int} (hm:(l.all λx=>qA keys sums x)=true) (hn:n∈dZ sums (E++l) k) (hf:aY n≠true):y5 keys sums E l=([],50):=by
 have :xw sums (E++l)=false:=by
  cases h:xw sums (E++l)with
  | false=>rfl
  | true=>
   unfold dZ at hn;obtain⟨i,hi,rfl⟩:=zar.1 hn;exact zas (uZ.1 h k i (by have:=zeo.1 hi;omega)) hf
 unfold y5;rw[zaa (by rw[hm];decide),zac this]
structure P6 (sums:Nat) (E l:List bD) (L0 Ln L:List gB) (Lf:List Ent) (done:List (List aC)):Prop where
 held:mP (NZ sums E l done) L
 from_: ∀s∈L,s∈Ln\/s∈L0
 rest: ∃Lr:List gB,(∀s∈Lr,s∈Ln)/\Lf.Perm (Lr.map ig)/\∀s∈Ln,s∈Lr\/s.2.2.1∈done
variable {L0:List gB}
def P6.start (h:mP (stE sums E) L0):P6 sums E l L0 Ln L0 (Ln.map ig) []:=
 ⟨h.congr λk=>ahK k,λs hs=>.inr hs,⟨Ln,λ_ h=>h,List.Perm.refl _,λs hs=>.inl hs⟩⟩
def P6.step {Lf Lf':List Ent} {done:List (List aC)} {p:Ent} (h:P6 sums E l L0 Ln L Lf done) (hn: ∀s∈Ln,s.2.2.2=dZ sums (E++l) s.2.2.1/\gI s.2.2.1/\s.2.2.1.length<=16) (hp:Lf.Perm (p::Lf')):
    ∃s:gB,s∈Ln/\p=ig s/\((s.2.2.2.any λn=>decide (n≠0))=true->P6 sums E l L0 Ln (xW L s) Lf' (s.2.2.1::done))/\((s.2.2.2.any λn=>decide (n≠0))=false->P6 sums E l L0 Ln (RA (xW L s) s.2.2.1) Lf' (s.2.2.1::done)):=by
  obtain⟨Lr,h1,h2,h3⟩:=h.rest;obtain⟨s,Lq,hq,rfl,hL⟩:=JW (hp.symm.trans h2);have hs:s∈Ln:=h1 s (hq.mem_iff.2 zao);obtain⟨e1,e2,e3⟩:=hn s hs;have lG:=h.held.put ⟨e2,e3⟩
  have ame: ∀t∈xW L s,t∈Ln\/t∈L0:=λt ht=>by
    rcases JV ht with rfl | ⟨ht,_⟩
    . exact .inl hs
    exact h.from_ t ht
  have Ja: ∃Lr:List gB,(∀s∈Lr,s∈Ln)/\Lf'.Perm (Lr.map ig)/\∀t∈Ln,t∈Lr\/t.2.2.1∈s.2.2.1::done:=⟨Lq,λt ht=>h1 t (hq.mem_iff.2 (zau _ ht)),hL,λt ht=>by
    rcases h3 t ht with h4 | h4
    . rcases zbb.1 (hq.mem_iff.1 h4)with rfl | h5
      . exact .inr zao
      exact .inl h5
    exact .inr (zau _ h4)⟩
  refine⟨s,hs,rfl,λha=>⟨lG.congr λx=>RG ?_ x,ame,Ja⟩,λha=>⟨?_,λt ht=>ame t (zcf.1 ht).1,Ja⟩⟩
  . unfold stE
    rw[<-e1,zac ha]
  refine(lG.del (k:=s.2.2.1)).congr λx=>?_;rw[RG (o:=none) (by unfold stE;rw[<-e1,zaa (by rw[ha];decide)])];unfold UG
  split<;>rfl
def P6.end_ {done:List (List aC)} (h:P6 sums E l L0 Ln L [] done) (hk: ∀k∈fU l,k∈Ln.map (·.2.2.1)):mP (stE sums (E++l)) L:=by
 obtain⟨Lr,_,h2,h3⟩:=h.rest
 have :Lr=[]:=by
  have:=h2.length_eq;rw[zae]at this;exact zbg this.symm
 subst this;refine h.held.congr λk=>ahL (λk Pe=>?_) k;obtain⟨s,hs,e⟩:=zar.1 (hk k Pe)
 rcases h3 s hs with h4 | h4
 .exact zas h4 zam
 rw[<-e];exact h4
def txA:L8:=[119,104,101,114,101,32,35,49,32,48,32,60,32,110,111,116,10,111,117,116,32,115,32,35,50,10,103,114,111,117,112,32,110,111,110,101,10]
def plA:aW:=⟨[⟨1,1,[]⟩,⟨2,0,[]⟩,⟨12,0,[]⟩,⟨15,0,[]⟩],[⟨[115],[⟨1,2,[]⟩]⟩], -1⟩
def txG:L8:=[119,104,101,114,101,32,110,111,110,101,10,111,117,116,32,115,32,35,50,10,111,117,116,32,110,32,35,49,10,103,114,111,117,112,32,49,10]
def plG:aW:=⟨[],[⟨[115],[⟨1,2,[]⟩]⟩,⟨[110],[⟨1,1,[]⟩]⟩],1⟩
def txO:L8:=[119,104,101,114,101,32,110,111,110,101,10,111,117,116,32,120,32,35,49,32,57,50,50,51,51,55,50,48,51,54,56,53,52,55,55,53,56,48,55,32,43,10,103,114,111,117,112,32,110,111,110,101,10]
def plO:aW:=⟨[],[⟨[120],[⟨1,1,[]⟩,⟨2,9223372036854775807,[]⟩,⟨7,0,[]⟩]⟩], -1⟩
def JX (l:List bL):Bool:=l.all λx=>decide (-9223372036854775808<=x.n/\x.n<=9223372036854775807)
def Ei {l:List bL} (h:JX l=true):bC l:=λx hx=>by
 have h1:=zba.1 h x hx;exact zbd (p:= -9223372036854775808<=x.n/\x.n<=9223372036854775807) h1
def textOf (p:aW) (t:L8):Bool:=DW p&&JX p.wh&&p.cols.all (λo=>JX o.steps)&&decide (uz (lU p)=t)&&decide (t.length<=1000)
def Cb {p:aW} {t:L8} (h:textOf p t=true):qJ t=(p,0,0)/\(bC p.wh/\∀o∈p.cols,bC o.steps)/\t.length<=1000:=by
 unfold textOf at h;simp only[zbr,decide_eq_true_eq]at h;obtain⟨⟨⟨⟨h1,h2⟩,h3⟩,h4⟩,h5⟩:=h;have f2:=Ei h2;have f3: ∀o∈p.cols,bC o.steps:=λo ho=>Ei (zba.1 h3 o ho);subst h4;exact⟨aea h1 f2 f3 oM,⟨f2,f3⟩,h5⟩
def alR:textOf plA txA=true:=by decide+kernel
def ahM:textOf plG txG=true:=by decide+kernel
def alS:textOf plO txO=true:=by decide+kernel
def aV:L8:=[97]
def bV:L8:=[98]
def iV (id:Int) (s:L8) (w:Int):aG:=⟨acG id s,w⟩
def iH (s:L8):aC:=⟨false,0,s⟩
def vO (n:Int):aC:=⟨false,n,[]⟩
def KW (w:Int):aG:=⟨[iH aV],w⟩
def LC (s:aC) (count n w:Int):aG:=⟨[s,vO count,vO n],w⟩
def lA1:List aG:=[iV 1 aV 1,iV (-2) bV 1,iV 3 aV 2]
def lA2:List aG:=[iV 1 aV (-1),iV (-2) bV (-1)]
def lG1:List aG:=[iV 5 aV 1,iV 2 aV 1,iV 1 [] 1]
def lG2:List aG:=[iV 2 aV (-1),iV 9 aV 1]
def lG3:List aG:=[⟨[vO 1,iH aV,iH aV],1⟩]
def lD:List aG:=[⟨[vO 2147483648],1⟩]
def lO1:List aG:=[iV 1 aV 1]
def lO2:List aG:=[iV 0 aV 1]
def tA1:List aG:=iR pO plA [] lA1
def tA2:List aG:=iR pO plA tA1 lA2
def tG1:List aG:=iR pO plG [] lG1
def tG2:List aG:=iR pO plG tG1 lG2
def GI:aC:=⟨true,0,[]⟩
def EM:(aZ pO plA).2=0/\fq pO plA [] lA1=([KW 3],0)/\fq pO plA tA1 lA2=([KW (-1)],0)/\d9 plA.group plA.cols.length tA2=([KW 2],0):=by decide+kernel
def pz:(aZ pO plG).2=0/\fq pO plG [] lG1=([LC GI 1 1 1,LC (iH aV) 2 7 1],0)/\fq pO plG tG1 lG2=([LC (iH aV) 2 7 (-1),LC (iH aV) 2 14 1],0)/\fq pO plG tG2 lG3=([],100)/\fq pO plG tG2 []=([],0)/\uD pO plG lD=([],100):=by decide+kernel
def JY:(aZ pO plO).2=0/\fq pO plO [] lO1=([],50)/\fq pO plO [] lO2=([⟨[vO 9223372036854775807],1⟩],0):=by decide+kernel
structure arf where
 xv:Value
 LI:List Held
 Ln:List gB
 Lf:List Ent
structure arh where
 L:List gB
 Lf:List Ent
 done:List (List aC)
def zn (l:List bD):(fU l).length<=l.length:=by
 refine Nb (p:=λl=>(fU l).length<=l.length) (zai _) (λl x ih=>?_) l;rw[oh,zad]
 split
 .omega
 rw[zad];simp only[zaf];omega
def RH (ks:List (List aC)) (f g:List aC->List Int):(ks.flatMap λk=>iG (f k) k (-1)++iG (g k) k 1).length<=2*ks.length:=by
 induction ks with
 | nil=>exact zai _
 | cons k ks ih=>
  have h1:=rT (f k) k (-1);have h2:=rT (g k) k 1;rw[zbh,zad,zad,zaq];omega
def zo {wt:Int} {o:aG} (h:o∈iG ns k wt):o.row=k++ns.map dw/\o.w=wt:=by
 unfold iG at h
 split at h
 .exact zas h zam
 rw[zaw]at h;subst h;exact⟨rfl,rfl⟩
def aeX {ks:List (List aC)} {f g:List aC->List Int} {o:aG} (h:o∈ks.flatMap λk=>iG (f k) k (-1)++iG (g k) k 1): ∃k∈ks,(o.row=k++(f k).map dw\/o.row=k++(g k).map dw)/\(o.w= -1\/o.w=1):=by
 obtain⟨k,hk,h⟩:=zcc.1 h
 rcases zbk.1 h with h | h
 .exact⟨k,hk,.inl (zo h).1,.inl (zo h).2⟩
 exact⟨k,hk,.inr (zo h).1,.inr (zo h).2⟩
variable {w:Wd} {F:NP}
def aeY (n:Int):Rk prog 398 [I n] w (.bool (decide (n≠0))):=by
 have H:=Sep.aH w;refine dh func398 ?_;refine V4 ?_;exact⟨rfl,H.kept⟩
def RI (h:mP (stE sums E) L0) (hk:gI k) (hE:xw sums E=true):
    ∃(hv nv:Value) (k0:List aC) (ns0:List Int),(mq (L0.map ig) (eU k)).getD (agg [.slice none 0 0,.slice none 0 0])=agg [hv,nv]/\(∀w1,gK w1 L0->aJ w1 hv ah 3 k0/\aJ w1 nv oQ 1 ns0)/\k0.length<=16/\ns0.length<=sums+1/\(∀n∈ns0,fits n)/\ns0++List.replicate (sums+1-ns0.length) 0=dZ sums E k/\∀wt,iG ns0 k0 wt=iG (dZ sums E k) k wt:=by
  have hns: ∀n∈dZ sums E k,fits n:=λn hn=>by
    unfold dZ at hn;obtain⟨i,hi,rfl⟩:=zar.1 hn;have:=zbd (uZ.1 hE k i (by have:=zeo.1 hi;omega));unfold fits;omega
  cases hs:stE sums E k with
  | none=>
    rw[h.ard hk hs];refine⟨_,_,[],[],rfl,λw1 _=>⟨qo _ _ _,qo _ _ _⟩,zai _,zai _,λn hn=>zas hn zam,?_,λwt=>?_⟩
    . refine zey λi=>?_
      rw[zbw,zcd,Nat.sub_zero,List.getElem?_replicate]
      by_cases hi:i<sums+1
      . rw[zac hi,yZ oM,Ab hs oM]
      rw[zaa hi,zdn (by rw[lI];omega)]
    unfold iG;rw[z8,Ab hs (zai _),zac rfl];rfl
  | some ns=>
    obtain⟨s,hm,e1,e2,e3⟩:=h.get hk hs;have e4:=Nc hs;rw[e3];refine⟨s.1,s.2.1,k,ns,rfl,λw1 hw=>?_,?_,?_,?_,?_,λwt=>by rw[e4]⟩
    . have:=(hw s hm).1
      rw[e1,e2]at this;exact this
    . have:=(h.fit s hm).2
      rw[e1]at this;exact this
    . rw[e4,lI];exact zbi _
    . rw[e4];exact hns
    rw[e4,lI,zec];simp
variable {bg:Nat} {v:Value}
set_option maxHeartbeats 1000000 in
theorem Yi {keys:Nat} {Z:List xC} (hp:(star (blk bg (q8 keys sums bh) 129) (GH bh sums E)).ok F w)
    (hv: ∀w1,Kept F w w1->aJ w1 v qC 3 Z) (hZ: ∀w1,Kept F w w1->zh w1 Z) (hT: ∀w1,Kept F w w1->gT w1) (hkm:keys<=16) (Kw:sums<=16) (hkf: ∀z∈Z,gI z.2.2.key)
    (hf: ∀z∈Z,fits z.2.2.w/\∀c∈z.2.2.vals,fits c.n) (hn:Z.length<=100) (hE:xw sums E=true):
    aQ prog 390 [av bg,v] w λu w'=>∃x:Value×List Held,u=.tuple #[x.1,I (y5 keys sums E (Z.map (·.2.2))).2]/\x.2.map (·.2)=(y5 keys sums E (Z.map (·.2.2))).1/\
      Turn F (star (dz x.1 x.2) (star (blk bg (q8 keys sums bh) 129) (GH bh sums (if(y5 keys sums E (Z.map (·.2.2))).2=0 then E++Z.map (·.2.2)else E)))) w w':=by
  have G1:=(Sep.bW hp).bE;obtain⟨L0,hS,H⟩:=RF G1.aF;obtain⟨gl,Kt⟩: ∃gl,gl=Z.map (λz=>z.2.2):=⟨_,rfl⟩;rw[<-Kt]
  have Mr: ∀x∈gl,fits x.w/\∀c∈x.vals,fits c.n:=λx hx=>by
    rw[Kt]at hx;obtain⟨z,hz,rfl⟩:=zar.1 hx;exact hf z hz
  have hgn:gl.length<=100:=by rw[Kt,zae];exact hn
  obtain⟨A,m,rfl,⟨hm,nX⟩,_⟩:=hv w (Kept.refl _ _);refine bU func390 ?_;refine Sr (bB H (cs:=[av bg]) rfl (h:=λb2 w2 H2 k1=>?_));refine Kz (NI (H2.obj At3)) (λw7 H7 k6=>?_);refine Qn (Cd rfl (λZg=>?_) (λZg=>?_))
  . exact Bool.noConfusion Zg
  refine Kz (aeN (Z:=Z) (H7.obj At3) (H7.obj At0) (hZ _ H7.kept) (hv _ H7.kept)) (λwa Ha ka=>?_);refine Qn (Cd rfl (λIe=>?_) (λIe=>?_))
  . have jV:(gl.all λx=>qA keys sums x)=false:=by
      have hc:(Z.any λz=> !qA keys sums z.2.2)=true:=by simpa using Ie
      rw[Kt,zgg];rw[List.any_eq_not_all_not]at hc;simpa[Function.comp_def]using hc
    have Pq:y5 keys sums E gl=([],2):=by unfold y5;rw[zac jV]
    refine V2 ?_;exact⟨(.slice none 0 0,[]),by rw[Pq];rfl,by rw[Pq];rfl,by
    rw[Pq,zaa dC];exact(Sep.gy (bJ (zm Ha.bI hS).aF.aR) 60 2).aR.aR.turn⟩
  have yI:(gl.all λx=>qA keys sums x)=true:=by
    have hc:(Z.any λz=> !qA keys sums z.2.2)=false:=by simpa using Ie
    rw[Kt,zgg];rw[List.any_eq_not_all_not]at hc;simpa[Function.comp_def]using hc
  have hmz: ∀z∈Z,z.2.2.key.length=keys/\z.2.2.vals.length=sums:=λz hz=>by
    have:=zba.1 yI z.2.2 (by rw[Kt];exact zdp hz);unfold qA at this;rw[zbr,decide_eq_true_iff]at this;exact this.1
  have hkl: ∀k∈fU gl,k.length<=16:=λk hk=>by
    obtain⟨x,hx,e⟩:=(oO gl).1 hk;rw[Kt]at hx;obtain⟨z,hz,rfl⟩:=zar.1 hx;have:=(hmz z hz).1;rw[<-e];omega
  refine V0 ?_;refine vH Ha (h:=λbn wb Hb kb=>?_);have Hb:=Sep.U1 Hb At0;refine V4 ?_;obtain⟨F0,rC,gQ,VH,aK⟩:=Sep.BN (Hb.gu.aS.aR) At2;have Fu: ∀w1,Kept F0 _ w1->Kept F w w1:=λw1 h1=>Mw.Kept.into Hb.kept gQ h1;have Ev: ∀w1,Kept F0 _ w1->gK w1 L0:=λw1 h1=>by obtain⟨Fq,F1,F2,_,_,h2,_⟩:=VH w1 h1;exact sI h2
  refine aL (aaB (bg:=bg) (keys:=keys) (sums:=sums) (bh:=bh) (E:=E) (λw1 h1=>by obtain⟨Fq,F1,F2,_,_,_,h2⟩:=VH w1 h1;exact h2.2) (λw1 h1=>hv w1 (Fu w1 h1)) (λw1 h1=>hZ w1 (Fu w1 h1)) (λw1 h1=>hT w1 (Fu w1 h1)) Kw (λz hz=>⟨by rw[(hmz z hz).1];exact hkm,hkf z hz⟩) (λz hz=>(hmz z hz).2) hf oM
    (λz hz=>by
      obtain⟨LY,nv0,k0,ns0,e1,e2,_,e4,e5,e6,_⟩:=RI hS (hkf z hz) hE;exact⟨LY,nv0,ns0,e1,λw1 h1=>(e2 w1 (Ev w1 h1)).2,e4,e5,e6⟩) rC) rfl rfl (λv' wc LZ=>?_)
  obtain⟨bm,D,C,rfl,hC,jH,F1,jB,xu⟩:=LZ;rw[<-Kt]at hC;have Hc:=aK _ F1 (je (gV bm D::gV bh (L0.map ig)::C.map NQ)) jH jB xu;have Hc:Mw.Sep w F (star (gV bm D) (star (gV bh (L0.map ig)) (je (C.map NQ)))::star (fP λw=>gK w L0) (blk bg (q8 keys sums bh) 129)::gV bn []::blk b2 [av bg] 93::[]) _:=Hc.aS;have Hc:=Sep.look (X:=λw=>GA w C) (Hc.bE.aF.bE.aF) At0 (λF w h=>Yh h);have Hc:=Sep.mh (Z:=λw=>gK w ([]:List gB)/\GA w C/\gK w L0) (Hc.aS.bE.aO) (λw h1 h2=>⟨λs hs=>zas hs zam,h1,h2⟩);have Hc:Mw.Sep w F [blk b2 [av bg] 93,blk bg (q8 keys sums bh) 129,gV bm D,gV bn [],gV bh (L0.map ig),fP λw=>gK w ([]:List gB)/\GA w C/\gK w L0] _:=Hc.aO.gu.gu.gu.jC;refine JQ Hc At2 (h:=?_);intro q wd Hd;refine V0 ?_;have ato:=FX gl;refine aI (λx:arf=>[(2,av b2),(6,.map (some bn)),(7,x.xv),(28,av q)]) (λx w'=>N7 sums E gl C x.Ln x.Lf x.LI/\Mw.Sep w F [blk b2 [av bg] 93,blk bg (q8 keys sums bh) 129,dz x.xv x.LI,vU q bm D x.Lf,gV bn (x.Ln.map ig),gV bh (L0.map ig),fP λw=>gK w x.Ln/\GA w C/\gK w L0] w') (λx _=>x.Lf.length) ⟨.slice none 0 0,[],[],D⟩ tR ⟨N7.start hC,(Sep.gy (bJ Hd) 60 2).aR.aO.aO⟩ (λx τ we hI=>?_);obtain⟨xv,LI,Ln,Lf⟩:=x;obtain⟨hJ,He⟩:=hI;dsimp only at hJ He;refine Lp ?_;refine Sr (NM He At3 (h1:=λp Lf' wf alD Hf=>?_) (h2:=λalD=>?_))
  . obtain⟨⟨bc,kv,sv,key,ns⟩,hcC,rfl,dN,Pz,A8,tu⟩:=hJ.step hC ato hkl alD
    have hLt:Lf'.length<Lf.length:=by have:=(alD).length_eq;simp only[zaq]at this;omega
    dsimp only at dN Pz A8 tu;have hcg:GA _ C:=(Sep.sees Hf At6).2.1;have an0:aJ _ kv ah 3 key:=(hcg _ hcC).2.1;have an1:aJ _ sv bZ 3 ns:=(hcg _ hcC).2.2;obtain⟨K,ck,rfl,_,_⟩:=an0;obtain⟨V,cv,rfl,_,_⟩:=an1;have Mq:ns.length=sums+1:=by rw[Pz,lI]
    obtain⟨LY,nv0,k0,ns0,hz1,hz2,hz3,hz4,hz5,hz6,hz7⟩:=RI hS A8.1 hE
    have atp:LI.length<=200:=by
      have h1:=zay List.length hJ.its;rw[zae]at h1;have h2:=RH (Ln.map (·.2.2.1)) (dZ sums E) (dZ sums (E++gl))
      have h3:(Ln.map (·.2.2.1)).length<=(fU gl).length:=by
        obtain⟨Cl,_,_,h4⟩:=hJ.rest;have h5:=h4.length_eq;have h6:=hC.keys.length_eq;rw[zad]at h5;omega
      have h7:=zn gl;omega
    refine V1 ?_;refine Vv (Gives.aa4 Hf At3 rfl) ?_;have Hg:=Sep.U4 Hf At3;refine V7 ?_;refine dM ((Sep.sees Hg At6).2.1 _ hcC).1 (h:=?_);refine Vb [.slice K key.length ck,.slice none 0 0] ?_;refine Az (λb10 wg Hh kc=>?_);refine Tz (λwh Hi=>?_);refine V3 ?_;refine dM ((Sep.sees Hi At7).2.1 _ hcC).1 (h:=?_);refine V2 ?_;refine aI (λx:(OA×Nat)×Nat=>[(2,av b2),(6,.map (some bn)),(7,xv),(8,str (eU key)),(10,av b10),(28,av q),(42,.slice V ns.length cv),(43,I ns.length),(44,I x.2)]) (λx w'=>(x.2<=ns.length/\∀n∈ns.take x.2,aY n=true)/\Mw.Sep w F [blk b10 [.slice K key.length ck,.slice x.1.1 (ns.take x.2).length x.1.2] 437,aU 2 1 oQ (.slice x.1.1 (ns.take x.2).length x.1.2) (ns.take x.2),blk b2 [av bg] 93,blk bg (q8 keys sums bh) 129,dz xv LI,vU q bm D Lf',gV bn (Ln.map ig),gV bh (L0.map ig),fP λw=>gK w Ln/\GA w C/\gK w L0] w') (λx _=>ns.length-x.2) ((none,0),0) tR ⟨⟨zai _,λn hn=>zas hn zam⟩,(Sep.iW Hi 2 1 oQ).aF⟩ (λx τ wi hI=>?_);obtain⟨⟨X,cX⟩,j⟩:=x;obtain⟨⟨hj,hfj⟩,Hj⟩:=hI;dsimp only at hj hfj Hj;have Tv:(ns.take j).length=j:=by rw[zah];omega
    refine Lp ?_;refine Cz (λIf=>?_) (λIf=>?_)
    . have aX:j<ns.length:=oM
      obtain⟨nj,hnj⟩:=get_some aX;have hbn:=aaJ hE Mr oM (show nj∈dZ sums (E++gl) key by rw[<-Pz];exact zag hnj);have Px:ns.take j++[nj]=ns.take (j+1):=by rw[zat,hnj];rfl
      refine V0 ?_;refine Vv (Gives.fA rfl rfl (eX ((Sep.sees Hj At8).2.1 _ hcC).2.2) aX) (Vv (Gives.iA rfl (Sep.aH _) (eX ((Sep.sees Hj At8).2.1 _ hcC).2.2) hnj) ?_);refine Az (λb12 wj Hk kd=>?_);refine Tz (λwk Hl=>?_);refine Nx (fQ Hl (cs:=bZ nj) (h:=?_));refine Kz (Um nj hbn.1 hbn.2) (λwl Hm ke=>?_);obtain⟨n1,AZ⟩: ∃n1:Int,n1=if aY nj=true then nj else 0:=⟨_,rfl⟩
      obtain⟨e1,Lj⟩: ∃e1:Int,e1=if aY nj=true then 0 else 50:=⟨_,rfl⟩
      rw[<-AZ,<-Lj];refine Cz (λIg=>?_) (λIg=>?_)
      . have Zb:aY nj≠true:=λh=>Ig (by rw[Lj,zac h])
        rw[zaa Zb]at Lj;have Pq:y5 keys sums E gl=([],50):=aeW yI (show nj∈dZ sums (E++gl) key by rw[<-Pz];exact zag hnj) Zb;refine V3 ?_;subst Lj
        exact⟨(.slice none 0 0,[]),by rw[Pq];rfl,by rw[Pq];rfl,by
          rw[Pq,zaa dC];have h1:=Sep.qM (Y:=λw=>gK w L0) Hm At9 (λw h=>h.2.2);exact(Sep.gy (bJ (zm h1.gu.amZ.am0 hS).aF.aR.first) 60 2).aR.aR.turn⟩
      have he0:e1=0:=Decidable.of_not_not Ig
      have Zb:aY nj=true:=by
        cases h:aY nj with
        | true=>rfl
        | false=>rw[h,zaa dC]at Lj;omega
      rw[zac Zb]at AZ;subst AZ;refine V3 ?_;refine Bs Hm ([n1].flatMap oQ) (λbs wm Hn kf=>?_);refine dJ Hn (news:=[n1]) At2 (by unfold maxLen;simp only[zaf];omega) (by simp only[zaf];omega) (cells_one (λ_=>rfl) _) (h:=?_);intro v60 wn Ho;rw[Px]at Ho;obtain⟨X2,cX2,rfl,_,_⟩:=Sep.bH Ho At2;refine Vf ?_;refine Uz (λwo Hp=>?_);refine V0 ?_;refine Vc ((j+1:Nat):Int) ?_;refine V1 ?_;exact aj ((X2,cX2),j+1) tR ⟨⟨dO,λn hn=>by
      dsimp only at hn;rw[<-Px]at hn
      rcases zbk.1 hn with hn | hn
      . exact hfj n hn
      rw[zaw]at hn;rw[hn];exact Zb⟩,Hp.bI⟩ dO
    have hjn:j=ns.length:=oM;rw[hjn,zbq]at hfj Hj;refine V2 ?_;refine fQ Hj (cs:=[.slice K key.length ck,.slice X ns.length cX]) (h:=?_);refine Ee (i:=eU key) (v:=agg [.slice K key.length ck,.slice X ns.length cX]) Hj At6 (h:=λwp Hq=>?_);rw[aeR (s:=(.slice K key.length ck,.slice X ns.length cX,key,ns)) (λs hs=>(hJ.nums s hs).2.2.1) A8.1 dN]at Hq;have hrk: ∀wx,GA wx C->aJ wx (.slice K key.length ck) ah 3 key:=λwx h=>(h _ hcC).2.1;refine Dz (λSa wq Hr=>?_);refine V6 ?_;refine FGl Sa 6 (v:=agg [LY,nv0]) rfl rfl (by rw[<-hz1];exact nN (i:=eU key) Hr At7 rfl rfl) kR ?_;refine jU Sa 9 Hr (h:=?_);refine eB Sa 7 [(9,false),(0,true)] Hr (UA (-1) (hz2 _ (by first | exact(Sep.sees Hr At8).2.2 | exact(Sep.sees Hr At9).2.2)).1 (hz2 _ (by first | exact(Sep.sees Hr At8).2.2 | exact(Sep.sees Hr At9).2.2)).2 oM oM) (h:=λy wr hy Hs kg=>?_);obtain⟨yv,Ly⟩:=y;dsimp only at hy Hs
    have hyl:Ly.length<=1:=by
      have h1:=zay List.length hy;rw[zae]at h1;have h2:=rT ns0 k0 (-1);omega
    refine⟨sU,?_⟩;refine Du Sa 8 [(9,false)] (Hs.jC.aF) oM (h:=λv74 ws Ht=>⟨sU,?_⟩);refine eB Sa 10 _ Ht (UA 1 (hrk _ (by first | exact(Sep.sees Ht At8).2.1 | exact(Sep.sees Ht At9).2.1)) (by first | exact jq Ht At2 | exact jq Ht At1) oM oM) (h:=λz wt hz Hu kh=>?_);obtain⟨zv,Lz⟩:=z;dsimp only at hz Hu
    have hzl:Lz.length<=1:=by
      have h1:=zay List.length hz;rw[zae]at h1;have h2:=rT ns key 1;omega
    refine⟨sT,?_⟩
    first | refine Du Sa 11 _ Hu (by rw[zad];omega) (h:=λv77 wu Hv=>⟨sT,?_⟩) | refine Du Sa 11 _ (Hu.aF) (by rw[zad];omega) (h:=λv77 wu Hv=>⟨sT,?_⟩)
    refine tq Sa 12 _ (h:=⟨sT,?_⟩);refine V0 ?_;have h1:=dY (Hv.aF.bI) At1;have h2:=Sep.mh (Z:=λw=>gK w (Ln++[((.slice K key.length ck,.slice X ns.length cX,key,ns):gB)])/\GA w C/\gK w L0) (h1.Ci.aO) (λw g1 g2=>⟨g2.1.push (s:=(.slice K key.length ck,.slice X ns.length cX,key,ns)) (hrk _ g2.2.1) g1 A8.1,g2.2⟩)
    exact aj ⟨v77,LI++Ly++Lz,Ln++[(.slice K key.length ck,.slice X ns.length cX,key,ns)],Lf'⟩ tR ⟨by
      dsimp only;rw[zbm];exact tu _ _ (Ly++Lz) (by rw[zak,hy,hz,hz7,<-Pz]) hfj,h2.lu.lu.lu.gu.lu.lu⟩ hLt
  subst alD;obtain⟨amg,Pq⟩:=hJ.fine hC yI hE;have rA:=hJ.keys hC
  have atp:LI.length<=200:=by
    have h1:=zay List.length hJ.its;rw[zae]at h1;have h2:=RH (Ln.map (·.2.2.1)) (dZ sums E) (dZ sums (E++gl));have h3:=rA.length_eq;have h7:=zn gl;omega
  refine V2 ?_
  have ajp: ∀o∈LI.map (·.2),fits o.w/\o.row.length<=1000:=λo ho=>by
    rw[hJ.its]at ho;obtain⟨k,hk,h1,h2⟩:=aeX ho;have h3:=hkl k (rA.mem_iff.1 hk);have h4:=lI (sums:=sums) (E:=E) (k:=k);have h5:=lI (sums:=sums) (E:=E++gl) (k:=k);refine⟨by unfold fits;omega,?_⟩
    rcases h1 with h1 | h1<;>rw[h1,zad,zae]<;>omega
  refine Nz (Gr (gU He At2) (by rw[zae];omega) (λo ho=>(ajp o ho).1) (λo ho=>(ajp o ho).2)) (λy wv hy Hw ki=>?_);obtain⟨yv,Ly⟩:=y;rw[<-Pq];rw[<-Pq]at hy;dsimp only at hy Hw ⊢;refine Cz (λIh=>?_) (λIh=>?_)
  . have Ii:=Ih
    have hb:(y5 keys sums E gl).1=[]:=by
      have h1:=Ih;rw[Pq]at h1 ⊢;rw[qG h1]
    refine V3 ?_;exact⟨(.slice none 0 0,[]),rfl,by rw[hb];rfl,by
    rw[zaa Ii];have h1:=Sep.qM (Y:=λw=>gK w L0) Hw At7 (λw h=>h.2.2);exact(Sep.gy (bJ (zm h1.aO.lu.Ci hS).aF.aR.first) 60 2).aR.aR.turn⟩
  have he0:(y5 keys sums E gl).2=0:=Decidable.of_not_not Ih;refine V1 ?_;refine JQ Hw At5 (h:=?_);intro q2 ww Hx;have Hx:=Sep.qM (Y:=λw=>gK w (Ln++L0)) (Hx.gu.bI.aS.bI) At5 (λw h=>h.1.app h.2.2);refine V0 ?_;refine aI (λx:arh=>[(2,av b2),(15,yv),(87,av q2)]) (λx w'=>P6 sums E gl L0 Ln x.L x.Lf x.done/\Mw.Sep w F [blk b2 [av bg] 93,blk bg (q8 keys sums bh) 129,dz yv Ly,vU q2 bn (Ln.map ig) x.Lf,gV bh (x.L.map ig),fP λw=>gK w (Ln++L0)] w') (λx _=>x.Lf.length) ⟨L0,Ln.map ig,[]⟩ tR ⟨P6.start hS,Hx.aO.aO⟩ (λx τ wy hI=>?_);obtain⟨L,Lf,done⟩:=x;obtain⟨hQ,Hy⟩:=hI;dsimp only at hQ Hy;refine Lp ?_;refine Sr (NM Hy At3 (h1:=λp Lf' wz adh Hz=>?_) (h2:=λadh=>?_))
  . obtain⟨⟨kv,nv,key,ns⟩,nH,rfl,hqy,hqn⟩:=hQ.step (λs hs=>⟨(hJ.nums s hs).1,(hJ.nums s hs).2.2⟩) adh
    have hLt:Lf'.length<Lf.length:=by have:=(adh).length_eq;simp only[zaq]at this;omega
    have A8:=(hJ.nums _ nH).2.2;dsimp only at hqy hqn A8;have amh:aJ _ kv ah 3 key/\aJ _ nv oQ 1 ns:=(Sep.sees Hz At5 _ (zco _ nH)).1;obtain⟨K,ck,rfl,_,_⟩:=amh.1;obtain⟨X,cX,rfl,_,_⟩:=amh.2;have rC: ∀t∈xW L (.slice K key.length ck,.slice X ns.length cX,key,ns),gI t.2.2.1:=(hQ.held.put (s:=(.slice K key.length ck,.slice X ns.length cX,key,ns)) A8).fits;refine V1 ?_;refine Vv (Gives.aa4 Hz At3 rfl) ?_;have HA:=Sep.U4 Hz At3;refine Az (λb18 wD HB kj=>?_);refine Am ?_;refine Tz (λwE HC=>?_);refine Dz (λSb wF HD=>?_);refine V6 ?_;refine UC Sb 6 _ (i:=eU key) (v:=agg [.slice K key.length ck,.slice X ns.length cX]) HD At5 (h:=λwG HE=>⟨sT,?_⟩);rw[RD (s:=(.slice K key.length ck,.slice X ns.length cX,key,ns)) hQ.held.fits A8.1]at HE;refine V2 ?_;have hnr:aJ _ (.slice X ns.length cX) oQ 1 ns:=(Sep.sees HE At6 _ (zco _ nH)).1.2;refine Kz (X5 (p:=λn=>decide (n≠0)) (fv:=.func (.func 398) #[] #[]) hnr ⟨398,[],[],rfl,eT,λx _ w' _=>aeY x⟩) (λwH HF kk=>?_);refine Vv (Gives.not rfl) (Qn ?_);refine Cd rfl (λIj=>?_) (λIj=>?_)
    . have LW:(ns.any λn=>decide (n≠0))=false:=by simpa using Ij
      refine V5 ?_;refine aaz (i:=eU key) HF At5 (h:=λwI HG=>?_);rw[aeS rC A8.1]at HG;refine V0 ?_;exact aj ⟨RA (xW L (.slice K key.length ck,.slice X ns.length cX,key,ns)) key,Lf',key::done⟩ tR ⟨hqn LW,HG.bI⟩ hLt
    have LW:(ns.any λn=>decide (n≠0))=true:=by simpa using Ij
    refine V0 ?_;exact aj ⟨xW L (.slice K key.length ck,.slice X ns.length cX,key,ns),Lf',key::done⟩ tR ⟨hqy LW,HF.bI⟩ hLt
  subst adh;have bX:=hQ.end_ (λk hk=>rA.mem_iff.2 hk);refine V4 ?_;exact⟨(yv,Ly),by rw[he0];rfl,hy,by
  rw[zac he0];have h1:=Sep.qM (Y:=λw=>gK w L) Hy At5 (λw h=>h.sub λs hs=>(hQ.from_ s hs).elim (zco _) (zcv _));exact((zm h1.aO.aO.gu.jC bX).aF.aR.aF.aR.first).turn⟩
def alT (s:gB):Value:=agg [s.1,s.2.1]
def Cc (L:List gB):List aG:=L.flatMap λs=>iG s.2.2.2 s.2.2.1 1
def aaK (L:List gB) (s:gB):Cc (L++[s])=Cc L++iG s.2.2.2 s.2.2.1 1:=by unfold Cc;rw[zbv];simp
def JZ: ∀L:List gB,(Cc L).length<=L.length
 | []=>zbi _
 | s::L=>by
  have h1:=JZ L;have h2:=rT s.2.2.2 s.2.2.1 1;unfold Cc at h1 ⊢;rw[zbh,zad,zaq];omega
def alU (b3:Nat) (L pre:List gB):HP:=exH λz:Value×List Held=>star (jk (z.2.map (·.2)=Cc pre)) (star (blk b3 [z.1] 41) (star (dz z.1 z.2) (fP λw=>gK w L)))
def RJ {α:Type} [DecidableEq α]: ∀{a b:List α},a.Nodup->a⊆b->a.length<=b.length
 | [],_,_,_=>zai _
 | x::a,b,hn,hs=>by
  rw[zfa]at hn;have hx:x∈b:=hs zao
  have h1:a⊆b.erase x:=λy hy=>by
   have iJ:y≠x:=λe=>hn.1 (by rw[<-e];exact hy);exact(List.mem_erase_of_ne iJ).2 (hs (zau _ hy))
  have h2:=RJ hn.2 h1;rw[List.length_erase_of_mem hx]at h2;have h3:=List.length_pos_of_mem hx;rw[zaq];omega
def ahN (h:mP (stE sums E) L):L.length<=E.length:=by
 have h1:L.map (·.2.2.1)⊆E.map (·.key):=λk hk=>by
  obtain⟨s,hs,rfl⟩:=zar.1 hk;have h2:=h.is s hs;refine Classical.byContradiction λhm=>?_;have h3: ∀i,jL E s.2.2.1 i=0:=λi=>uY λx hx e=>hm (zar.2 ⟨x,hx,e⟩)
  have h4:stE sums E s.2.2.1=none:=by
   unfold stE;rw[zaa];simp only[dZ,h3];simp;exact λx _=>h3 x
  rw[h4]at h2;cases h2
 have h5:=RJ h.nd h1;rw[zae,zae]at h5;exact h5
def aaL {keys:Nat} {xs:List gB} (h:mP (stE sums E) L) (hE: ∀x∈E,x.key.length=keys) (hp:xs.Perm L):cO (Cc xs)=(lZ sums E,0):=by
 have e:Cc xs=(xs.map (·.2.2.1)).flatMap λk=>ace (stE sums E k) k 1:=by
  unfold Cc;rw[List.flatMap_map,List.flatMap_def,List.flatMap_def]
  congr 1
  refine zcr λs hs=>?_;rw[h.is s (hp.mem_iff.1 hs)];rfl
 rw[e];exact QN hE ((hp.map _).symm.nodup h.nd) λk hk=>(hp.map _).mem_iff.2 (h.all k hk)
def aeZ (bh:Nat):aQ prog 399 [.map (some bh)] w λv w'=>∃b1:Nat,v=.func (.func 407) #[] #[av b1]/\True/\Turn noB (blk b1 [.map (some bh)] 127) w w':=by
 have H:=Sep.aH w;refine dh func399 ?_;refine Sr (bB H (cs:=[.map (some bh)]) rfl (h:=λb1 _ k _=>?_));refine V3 ?_;exact⟨b1,rfl,trivial,k.turn⟩
def aaM {w0:Wd} {S:NP} {l Dd b1:Nat} {ro:Obj} {J:List gB->HP} {Fr:List HP} {E1:Td} (qF: ∀s∈L,s.1.oneCell'=true/\s.2.1.oneCell'=true)
    (H:Mw.Sep w0 S (Mw.obj l ro::Mw.obj Dd (.deferred (some []))::J []::blk b1 [.map (some bh)] E1::gV bh (L.map ig)::Fr) w)
    (hy: ∀(pre:List gB) (x:gB) (Fr:List HP) (W:Wd),(∃r,(pre++[x]++r).Perm L)->Mw.Sep w0 S (Mw.obj l ro::Mw.obj Dd (.deferred (some []))::J pre::Fr) W->UN prog l [alT x] W λW'=>Mw.Sep w0 S (Mw.obj l ro::Mw.obj Dd (.deferred (some []))::J (pre++[x])::Fr) W'):
    aQ prog 407 [.func (.yield l) #[] #[],av b1] w λ_ w'=>∃xs:List gB,xs.Perm L/\Mw.Sep w0 S (Mw.obj l ro::Mw.obj Dd (.deferred (some []))::J xs::gV bh (L.map ig)::Fr) w':=by
  refine bU func407 ?_;refine V1 ?_;refine JQ H At4 (h:=?_);intro q w3 H3;refine V0 ?_;refine aI (λx:List gB×List Ent=>[(0,.func (.yield l) #[] #[]),(1,av b1),(6,av q)]) (λx w'=>(∃r,(x.1++r).Perm L/\x.2.Perm (r.map ig))/\Mw.Sep w0 S (Mw.obj l ro::Mw.obj Dd (.deferred (some []))::J x.1::blk b1 [.map (some bh)] E1::vU q bh (L.map ig) x.2::Fr) w') (λx _=>x.2.length) ([],L.map ig) tR ⟨⟨L,List.Perm.refl _,List.Perm.refl _⟩,H3⟩ (λx τ w5 hI=>?_);obtain⟨pre,Lf⟩:=x;obtain⟨⟨r,Y3,Vp⟩,H5⟩:=hI;dsimp only at Y3 Vp H5;refine Lp ?_;refine Sr (NM H5 At4 (h1:=λp Lf' w8 hn6 H8=>?_) (h2:=λhn6=>?_))
  . have hLt:Lf'.length<Lf.length:=by have:=(hn6).length_eq;simp only[zaq]at this;omega
    obtain⟨s,r',hq,rfl,hL⟩:=JW ((hn6).symm.trans Vp)
    have DT:(pre++[s]++r').Perm L:=by
      rw[zbm];exact(List.Perm.append_left pre hq.symm).trans Y3
    have hsL:s∈L:=DT.mem_iff.1 (zco _ (zcv _ (zaw.2 rfl)));obtain⟨kv,nv,key,ns⟩:=s;obtain⟨ho1,ho2⟩:=qF _ hsL;dsimp only at ho1 ho2;refine V1 ?_;refine Vv (Gives.aa4 H8 At4 rfl) ?_;have Ha:=Sep.U4 H8 At4;refine Vx ?_;refine Az (λb4 wa Hb ka=>?_);refine iB Hb (us:=[kv,nv]) (hv:=by simp[ho1,ho2]) (h:=λwb Hc=>?_);refine V1 ?_;refine fQ Hc (cs:=[kv,nv]) (h:=?_);refine ahW rfl (hy pre (kv,nv,key,ns) _ _ ⟨r',DT⟩ (Hc.bI)) rfl rfl (λwc Hd=>?_);refine O1 ?_;refine Qn (Cd rfl (λIe=>?_) (λIe=>?_))
    . exact zas Ie dC
    refine V0 ?_;exact aj (pre++[(kv,nv,key,ns)],Lf') tR ⟨⟨r',DT,hL⟩,Hd⟩ hLt
  subst hn6
  have hr0:r=[]:=by
    have:=Vp.length_eq;rw[zae]at this;exact zbg this.symm
  subst hr0;rw[zbt]at Y3;refine V1 ?_;exact⟨pre,Y3,(Sep.aiy (H5.aS.bI) At3)⟩
theorem aaN {keys:Nat} (hp:(star (blk bg (q8 keys sums bh) 129) (GH bh sums E)).ok F w) (hn:E.length<=200) (hEk: ∀x∈E,x.key.length=keys) (Kw:sums<=16):
    aQ prog 391 [av bg] w λu w'=>∃x:Value×List Held,u=x.1/\x.2.map (·.2)=lZ sums E/\Turn F (star (dz x.1 x.2) (star (blk bg (q8 keys sums bh) 129) (GH bh sums E))) w w':=by
  have G1:=(Sep.bW hp).bE;obtain⟨L,hS,H⟩:=RF G1.aF;have hLl:=ahN hS;refine dh func391 ?_;refine Kz (NI (H.obj At2)) (λ_ _ _=>?_);refine Qn (Cd rfl (λk=>?_) (λk=>?_))
  . exact Bool.noConfusion k
  refine Az (λb3 _ _ _=>?_);refine Nz (aeZ bh) (λb1 k _ S _=>?_);refine V0 ?_;have hLn: ∀s∈L,s.2.2.1.length<=16/\s.2.2.2.length<=17:=λs hs=>⟨(hS.fit s hs).2,by rw[Nc (hS.is s hs),lI];omega⟩
  have qF: ∀s∈L,s.1.oneCell'=true/\s.2.1.oneCell'=true:=λs hs=>by
    have h1:=(Sep.sees S At2 s hs).1;obtain⟨_,_,e1,_⟩:=h1.1;obtain⟨_,_,e2,_⟩:=h1.2;rw[e1,e2];exact⟨rfl,rfl⟩
  have HJ:Mw.Sep w F (alU b3 L []::[blk b1 [.map (some bh)] 127,gV bh (L.map ig),blk bg (q8 keys sums bh) 129]) k:=by
    have h1:=(Sep.gy (bJ S.aO) 60 2).aR.aR.aO.aR;exact Sep.tY (p:=λz:Value×List Held=>star (jk (z.2.map (·.2)=Cc [])) (star (blk b3 [z.1] 41) (star (dz z.1 z.2) (fP λw=>gK w L)))) (.slice none 0 0,[]) (Sep.aR (Sep.jP rfl h1))
  refine afp (gf:=407) (lb:=[av b1]) alT (λpre=>∃r,(pre++r).Perm L) (λxs=>xs.Perm L) (alU b3 L) _ [gV bh (L.map ig),blk bg (q8 keys sums bh) 129] HJ rfl rfl ?_ ?_ ?_
  . intro l D ro rb pre x Fr W jI HW
    obtain⟨r,DT⟩:=jI;have hsL:x∈L:=DT.mem_iff.1 (zco _ (zcv _ (zaw.2 rfl)))
    have Ql:pre.length<=L.length:=by
      have:=DT.length_eq;rw[zad,zad]at this;omega
    obtain⟨kv,nv,key,ns⟩:=x;obtain⟨ho1,ho2⟩:=qF _ hsL;obtain⟨hl1,hl2⟩:=hLn _ hsL;dsimp only at ho1 ho2 hl1 hl2;refine V0 ?_;refine Ny HW (h:=λb17 _ S _=>?_);refine iB S (us:=[kv,nv]) (hv:=by simp[ho1,ho2]) (h:=λ_ S=>?_);refine yj (qP ?_);refine⟨[blk _ [kv,nv] 437],Sep.GK S,λWB HB=>?_⟩;obtain⟨⟨xv,LI⟩,HB1⟩:=Sep.ex0 (Sep.aS HB);obtain⟨hLI,HB2⟩:=Sep.ru HB1.bE;replace HB2:=HB2.bE.aF.bE;dsimp only at hLI HB2
    have atr:LI.length<=200:=by
      have h1:=zay List.length hLI;rw[zae]at h1;have h2:=JZ pre;omega
    refine Dz (λS _ k=>?_);refine V2 ?_;refine eB S 2 [(0,false)] k (UA 1 (Sep.sees k At1 _ hsL).1.1 (Sep.sees k At1 _ hsL).1.2 dO dO) (h:=λy _ hy k _=>?_);obtain⟨yv,Ly⟩:=y;dsimp only at hy k
    have hyl:Ly.length<=1:=by
      have h1:=zay List.length hy;rw[zae]at h1;have h2:=rT ns key 1;omega
    refine⟨sL,?_⟩;refine Du S 3 _ k oM (h:=λv18 _ k=>?_);obtain⟨X18,c18,rfl,_,_⟩:=Sep.bH (k.bE) At0;refine⟨sT,?_⟩;refine l8 S 4 _ k (h:=λ_ k=>⟨sT,?_⟩);refine fO S kR ?_;refine xG (qP ?_);have h1:=k.aR.aF.aR;exact(Sep.aS (Sep.tY (p:=λz:Value×List Held=>star (jk (z.2.map (·.2)=Cc (pre++[((kv,nv,key,ns):gB)]))) (star (blk b3 [z.1] 41) (star (dz z.1 z.2) (fP λw=>gK w L)))) (.slice X18 (aP (LI++Ly)).length c18,LI++Ly) (Sep.aR (Sep.jP (by dsimp only;rw[zak,hLI,hy,aaK]) h1)))).bI.GK
  . intro l D ro W HW hy
    exact aaM qF HW hy
  intro D k xs hxs HD;obtain⟨⟨xv,LI⟩,HD1⟩:=Sep.ex0 HD.aF;obtain⟨hLI,HD2⟩:=Sep.ru HD1.bE;have k:=HD2.bE.aF.bE;dsimp only at hLI k
  have atr:LI.length<=200:=by
    have h1:=zay List.length hLI;rw[zae]at h1;have h2:=JZ xs;have h3:=hxs.length_eq;omega
  have ajp: ∀o∈LI.map (·.2),fits o.w/\o.row.length<=1000:=λo ho=>by
    rw[hLI]at ho;obtain⟨s,hs,ho⟩:=zcc.1 ho;have h1:=zo ho;have h2:=hLn s (hxs.mem_iff.1 hs);exact⟨by rw[h1.2];exact⟨dC,dC⟩,by rw[h1.1,zad,zae];omega⟩
  refine Nz (Gr (gU k At0) (by rw[zae];omega) (λo ho=>(ajp o ho).1) (λo ho=>(ajp o ho).2)) (λy _ hy k _=>?_);obtain⟨yv,Ly⟩:=y;rw[hLI,aaL hS hEk hxs]at hy;dsimp only at hy k ⊢;refine O7 ?_;refine Qn (ME (ah7 k At4 (hR:=λ_ k=>?_)));exact⟨(yv,Ly),rfl,hy,by
  have h1:=k;exact((zm (h1.lu.lu.gu) hS).aF.aR.aF.aR.first).turn⟩
def Yj {α:Type} {enc:α->LV} {k:Nat} [hk:jd enc k] {A:OA} {l:List α} {c j:Nat} (h:aJ w (.slice A l.length c) enc k l) (hj:j<=l.length):aJ w (.slice (if c=j then A else A.map (·.add (j*k))) (l.length-j) (c-j)) enc k (l.drop j):=by
 obtain⟨A',c',e,⟨h1,h2⟩,h3⟩:=h;injection e with e1 e2 e3
 subst e1;subst e3;have h4:=ML (j:=l.length-j) h3 h1 h2 oM;rw[show l.length-(l.length-j)=j from oM]at h4;exact h4
def Av (w:Wd) (F:NP) (v:Value) (m:List aG):Prop:=∃r,∀w1,Kept F w w1->aJ w1 v aA 2 r/\gN w1 r m
def Av.is {m:List aG} (h:Av w F v m): ∀w1,Kept F w w1->dS w1 v m:=λw1 h1=>by
 obtain⟨r,hr⟩:=h;exact⟨r,(hr w1 h1).1,(hr w1 h1).2⟩
theorem P7 {bk bg bh keys sums:Nat} {m:List aG} (hp:(star (blk bk [av bg,I keys] 98) (star (blk bg (q8 keys sums bh) 129) (GH bh sums E))).ok F w)
    (hm:Av w F v m) (hT: ∀w1,Kept F w w1->gT w1) (hkm:keys<=16) (Kw:sums<=16) (hr: ∀o∈m,fits o.w/\o.row.length=keys+sums/\gI o.row) (hn:m.length<=100) (hE:xw sums E=true):
    aQ prog 388 [av bk,v] w λu w'=>∃x:Value×List Held,u=.tuple #[x.1,I (y5 keys sums E (m.map (fu keys))).2]/\x.2.map (·.2)=(y5 keys sums E (m.map (fu keys))).1/\
      Turn F (star (dz x.1 x.2) (star (blk bk [av bg,I keys] 98) (star (blk bg (q8 keys sums bh) 129) (GH bh sums (if(y5 keys sums E (m.map (fu keys))).2=0 then E++m.map (fu keys)else E))))) w w':=by
  have H:=(Sep.bW hp).bE;obtain⟨r,hrr⟩:=hm;obtain⟨⟨A,c,rfl,⟨hc,hc'⟩,_⟩,Ze⟩:=hrr w (Kept.refl _ _);have yL:=Ze.len;refine bU func388 ?_;refine V6 ?_;refine aI (λx:(OA×Nat)×List xC×Nat=>[(0,av bk),(6,.slice x.1.1 x.2.1.length x.1.2),(9,.slice A r.length c),(10,I r.length),(11,I x.2.2)]) (λx w'=>(x.2.2<=r.length/\x.2.1.map (·.2.2)=(m.take x.2.2).map (fu keys)/\∀w1,Kept F w w1->zh w1 x.2.1)/\Mw.Sep w F [aU 427 3 qC (.slice x.1.1 x.2.1.length x.1.2) x.2.1,blk bk [av bg,I keys] 98,star (blk bg (q8 keys sums bh) 129) (GH bh sums E)] w') (λx _=>r.length-x.2.2) ((none,0),[],0) tR ⟨⟨zai _,rfl,λw1 _ z hz=>zas hz zam⟩,Sep.iW H 427 3 qC⟩ (λx τ w8 hI=>?_);obtain⟨⟨X,cX⟩,Z,i⟩:=x;obtain⟨⟨hi,hZm,hZi⟩,H8⟩:=hI;dsimp only at hi hZm hZi H8
  have hZl:Z.length=i:=by
    have h1:=zay List.length hZm;rw[zae,zae,zah]at h1;omega
  refine Lp ?_;refine Cz (λIe=>?_) (λIe=>?_)
  . have aX:i<r.length:=oM
    obtain⟨o,ho⟩:=get_some (l:=m) (show i<m.length from oM);obtain⟨awl,awm,awn⟩:=hr o (zag ho);obtain⟨vo,zJ,DU⟩:=Ze.get ho;obtain⟨V,cv,rfl,⟨hcv,alA⟩,_⟩:=DU
    have alE: ∀w1,Kept F w w1->aJ w1 (.slice V o.row.length cv) ah 3 o.row:=λw1 h1=>by
      obtain⟨vo2,Vy,an3⟩:=(hrr w1 h1).2.get ho;rw[zJ]at Vy;injection Vy with Vy
      injection Vy with e1 e2
      rw[e1];exact an3
    obtain⟨z,hz⟩: ∃z:xC,z=(.slice V keys cv,.slice (if cv=keys then V else V.map (·.add (keys*3))) (o.row.length-keys) (cv-keys),fu keys o):=⟨_,rfl⟩
    have an4: ∀w1,Kept F w w1->zh w1 (Z++[z]):=λw1 h1 y hy=>by
      rcases zbk.1 hy with hy | hy
      . exact hZi w1 h1 y hy
      rw[zaw]at hy;subst hy;rw[hz];refine⟨?_,Yj (alE w1 h1) oM⟩;have h2:=JU (m:=keys) (alE w1 h1) oM;exact h2
    have Pp:(Z++[z]).map (·.2.2)=(m.take (i+1)).map (fu keys):=by rw[zak,hZm,zat,ho,hz,zak];rfl
    refine V0 ?_;refine Vv (Gives.fA rfl rfl (eX (hrr _ H8.kept).1) aX) (Vv (Gives.iA rfl (Sep.aH _) (eX (hrr _ H8.kept).1) zJ) ?_);refine Az (λb8 wa Ha ka=>?_);refine Tz (λwb Hb=>?_);refine Dz (λSa wc Hc=>?_);refine V7 ?_;refine GS (Gn rfl (λ_=>Gives.sliceTo (h:=keys) rfl rfl oM) ?_);refine V6 ?_;refine GS (Gn rfl (λ_=>Gives.sliceFrom (l:=keys) rfl rfl oM) ?_);refine V2 ?_;refine Gp Sa 17 rfl rfl (λ_=>Gives.build (out:=qC z) (by subst hz;exact(Fills.one rfl rfl rfl sM rfl (Fills.one rfl rfl rfl sM rfl (Fills.one rfl rfl rfl sM rfl Fills.nil))))) (Gz Sa 18 _ Hc ([z].flatMap qC) (h:=λbs wd Hd=>⟨sT,?_⟩));refine gH Sa 19 _ Hd (news:=[z]) At1 (by unfold maxLen;simp only[zaf];omega) (by simp only[zaf];omega) (by subst hz;exact(λu hu=>zba.1 (show([_].flatMap qC).all Value.oneCell'=true from rfl) u hu)) (h:=λv34 we He=>?_);obtain⟨X2,cX2,rfl,_,_⟩:=Sep.bH He At1;refine⟨sT,?_⟩;refine tq Sa 20 _ (h:=⟨sT,?_⟩);refine V0 ?_;refine Vc ((i+1:Nat):Int) ?_;refine V1 ?_;exact aj ((X2,cX2),Z++[z],i+1) tR ⟨⟨dO,Pp,an4⟩,He.bI⟩ dO
  have jG:i=m.length:=oM;rw[jG,zbq]at hZm;refine V5 ?_;obtain⟨F0,rC,gQ,VH,aK⟩:=Sep.BN H8 At1;have Fu: ∀w1,Kept F0 _ w1->Kept F w w1:=λw1 h1=>Mw.Kept.into H8.kept gQ h1
  have hzo: ∀z∈Z,∃o∈m,z.2.2=fu keys o:=λz hz=>by
    have h1:z.2.2∈Z.map (·.2.2):=zdp hz;rw[hZm]at h1;obtain⟨o,ho,e⟩:=zar.1 h1;exact⟨o,ho,e.symm⟩
  refine aL (Yi rC (λw1 h1=>by obtain⟨Fq,h2⟩:=VH w1 h1;exact mW h2) (λw1 h1=>hZi w1 (Fu w1 h1)) (λw1 h1=>hT w1 (Fu w1 h1)) hkm Kw (λz hz=>by
      obtain⟨o,ho,e⟩:=hzo z hz;rw[e];exact λc hc=>(hr o ho).2.2 c (zcg hc)) (λz hz=>by
      obtain⟨o,ho,e⟩:=hzo z hz;rw[e];exact⟨(hr o ho).1,λc hc=>((hr o ho).2.2 c (zeg hc)).1⟩) oM hE) rfl rfl (λv' wf LZ=>?_)
  obtain⟨x,rfl,hx,jH,F1,jB,xu⟩:=LZ;rw[hZm]at hx jB ⊢;have Hf:=aK _ F1 _ jH jB xu;refine V4 ?_;exact⟨x,rfl,hx,(Hf.bI.aF.bE.aF.aO.aR.aF.aR).turn⟩
def N8 {bk keys:Nat} (hp:(star (blk bk [av bg,I keys] 98) (star (blk bg (q8 keys sums bh) 129) (GH bh sums E))).ok F w) (hn:E.length<=200) (hEk: ∀x∈E,x.key.length=keys) (Kw:sums<=16):
    aQ prog 389 [av bk] w λu w'=>∃x:Value×List Held,u=x.1/\x.2.map (·.2)=lZ sums E/\Turn F (star (dz x.1 x.2) (star (blk bk [av bg,I keys] 98) (star (blk bg (q8 keys sums bh) 129) (GH bh sums E)))) w w':=by
  have H:=(Sep.bW hp).bE;refine dh func389 ?_;refine V5 ?_;obtain⟨F0,rC,gQ,aK⟩:=H.focus At1;refine aL (aaN rC hn hEk Kw) rfl rfl (λv' _ LZ=>?_);obtain⟨x,rfl,hx,jH,F1,jB,k⟩:=LZ;have S:=aK _ F1 _ jH jB k;refine V1 ?_;exact⟨x,rfl,hx,(S.aF.bE.aF.aO.aR.aF.aR).turn⟩
end Go.Proofs.Mw
