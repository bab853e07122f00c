/-
 Items in order,summed up run by run:what is held at each turn. No program stands here.
-/
import Derived.Test.YtkfpleidaoaonaaGreatDoorNw1
import Derived.Test.YtkfpleidaoaonaaGreatDoorNw13
import Derived.Test.YtkfpleidaoaonaaGreatDoorNw3
import Derived.Test.YtkfpleidaoaonaaGreatDoorNw15
import Derived.Test.YtkfpleidaoaonaaGreatDoorNw14
import Derived.Test.YtkfpleidaoaonaaGreatDoorNw4
import Derived.Lib.AppendZerosOnto
set_option linter.unusedVariables false
set_option linter.unusedSimpArgs false
namespace Go.Proofs.YtkfpleidaoaonaaGreatDoor
open Go Go.Lib Go.Mw
set_option maxRecDepth 4000
def AB (s:List aH):Prop:=s.Pairwise λa b=>jU a.row b.row<=0
theorem EZ {a b c:List ay} (h:jU a b<=0) (h2:jU b c<0):jU a c<0:=by
 rcases Int.lt_or_lt_of_ne (a:=jU a b) (b:=0) |> λf=>(Decidable.em (jU a b=0)).imp id f with e | e | e
 .rw[(ig.eq0 a b).1 e];exact h2
 .exact ig.trans _ _ _ e h2
 omega
theorem E8 {a b c:List ay} (h:jU a b<0) (h2:jU b c<=0):jU a c<0:=by
 rcases Decidable.em (jU b c=0)with e | e
 .rw[<-(ig.eq0 b c).1 e];exact h
 exact ig.trans _ _ _ h oM
structure uG (l o s:List aH):Prop where
 wt: ∀r,wtL o r+wtL s r=wtL l r
 srt:AB s
 oz:isZ o
 lt: ∀x∈o,∀y∈s,jU x.row y.row<0
theorem Tt {a b:List aH} (h:a.Perm b) (r:List ay):wtL a r=wtL b r:=by
 induction h with
 | nil=>rfl
 | cons x _ ih=>rw[wtL,wtL,ih]
 | swap x y l=>rw[wtL,wtL,wtL,wtL];omega
 | trans _ _ h1 h2=>exact h1.trans h2
theorem uG.start {l s:List aH} (hp:s.Perm l) (hs:AB s):uG l [] s:=
 ⟨λr=>by rw[wtL,Tt hp];omega,hs,⟨List.Pairwise.nil,λ_ h=>zap h zao,λ_ h=>zap h zao⟩,λ_ h=>zap h zao⟩
theorem uG.done {l o:List aH} (h:uG l o []):cZ l=(o,0):=by
 rw[<-Nv h.oz];exact zn λr=>by rw[<-h.wt r];simp[wtL]
section
variable {l o s:List aH} {x:aH} {j:Nat}
theorem uG.first (h:uG l o s) (hx:s[0]? =some x) (hn: ∀y,s[j]? =some y->y.row≠x.row):wtL (s.take j) x.row=wtL l x.row/\∀y∈s.drop j,jU x.row y.row<0:=by
 have hb: ∀y∈s.drop j,jU x.row y.row<0:=by
  intro y hy;obtain⟨z,t,hz⟩: ∃z t,s.drop j=z::t:=List.exists_cons_of_ne_nil (List.ne_nil_of_mem hy)
  have hzj:s[j]? =some z:=by
   have:=zbb (λq=>q[0]?) hz;simpa[zco]using this
  have hj0:0<j:=by
   rcases zeb j with e | e
   .subst e;rw[hx]at hzj;injection hzj with hzj;subst hzj;exact zap rfl (hn x hx)
   exact e
  have aoi:=h.srt;have hp:AB (s.take j++s.drop j):=by rw[zbs];exact aoi
  obtain⟨_,hp2,Nb⟩:=List.pairwise_append.1 hp;have ZB:x∈s.take j:=zam (i:=0) (by rw[zck,zac hj0];exact hx);have hxz:=Nb x ZB z (by rw[hz];exact zae);have iC:=hn z hzj
  have bH:jU x.row z.row<0:=by
   have:=mt (ig.eq0 x.row z.row).1 λe=>iC e.symm;omega
  rw[hz]at hy hp2
  rcases zan.1 hy with e | e
  .rw[e];exact bH
  exact E8 bH ((zcp.1 hp2).1 y e)
 refine⟨?_,hb⟩;have h1:wtL s x.row=wtL (s.take j) x.row+wtL (s.drop j) x.row:=by rw[<-iD,zbs]
 have h2:wtL (s.drop j) x.row=0:=uF λy hy e=>ig.irr (hb y hy) e.symm;have h3:wtL o x.row=0:=uF λy hy e=>ig.irr (h.lt y hy x (zam hx)) e;have:=h.wt x.row;omega
theorem uG.bad (h:uG l o s) (hx:s[0]? =some x) (hn: ∀y,s[j]? =some y->y.row≠x.row) (hf:eO (wtL (s.take j) x.row)≠true):cZ l=([],50):=by
 refine vL λe=>hf ?_;rw[(h.first hx hn).1];exact JH.1 e _
theorem uG.step (h:uG l o s) (hx:s[0]? =some x) (jN: ∀y∈s.take j,y.row=x.row) (hn: ∀y,s[j]? =some y->y.row≠x.row) (hf:eO (wtL (s.take j) x.row)=true):
    uG l (if wtL (s.take j) x.row≠0 then o++[⟨x.row,wtL (s.take j) x.row⟩]else o) (s.drop j):=by
  obtain⟨h1,h2⟩:=h.first hx hn;have H:AB (s.drop j):=h.srt.sublist (List.drop_sublist _ _)
  have hw: ∀r,wtL s r=(if x.row=r then wtL (s.take j) x.row else 0)+wtL (s.drop j) r:=λr=>by
    have :wtL s r=wtL (s.take j) r+wtL (s.drop j) r:=by rw[<-iD,zbs]
    by_cases e:x.row=r
    . rw[zac e,<-e];rw[<-e]at this;exact this
    rw[zab e,this,uF λy hy e2=>e (by rw[<-jN y hy];exact e2)]
  by_cases h0:wtL (s.take j) x.row≠0
  . rw[zac h0]
    refine⟨λr=>?_,H,⟨?_,λy hy=>?_,λy hy=>?_⟩,λy hy z hz=>?_⟩
    . rw[iD,<-h.wt r,hw r,wtL,wtL];dsimp only;omega
    . unfold ow
      rw[zau,List.pairwise_append];refine⟨h.oz.1,List.pairwise_singleton _ _,λa ha b hb=>?_⟩;obtain⟨y,hy,rfl⟩:=zat.1 ha;simp at hb;subst hb;exact h.lt y hy x (zam hx)
    . rcases zbi.1 hy with e | e
      . exact h.oz.2.1 y e
      rw[zar]at e;subst e;exact h0
    . rcases zbi.1 hy with e | e
      . exact h.oz.2.2 y e
      rw[zar]at e;subst e;exact hf
    rcases zbi.1 hy with e | e
    . exact h.lt y e z (zfp hz)
    rw[zar]at e;subst e;exact h2 z hz
  rw[zab h0];refine⟨λr=>?_,H,h.oz,λy hy z hz=>h.lt y hy z (zfp hz)⟩;have h5:wtL (s.take j) x.row=0:=Decidable.of_not_not h0;rw[<-h.wt r,hw r,h5]
  split<;>omega
end
def lU:List aH->Bool
 | []=>true
 | [x]=>decide (x.w≠0)
 | x::y::l=>decide (x.w≠0/\jU x.row y.row<0)&&lU (y::l)
theorem E9: ∀{z:List aH},isZ z->lU z=true
 | [],_=>rfl
 | [x],h=>zbj (h.2.1 x zae)
 | x::y::l,h=>by
  obtain⟨h1,h2,h3⟩:=h;obtain⟨h4,h5⟩:=zcp.1 h1;rw[lU,E9 (z:=y::l) ⟨h5,λz hz=>h2 z (zag _ hz),λz hz=>h3 z (zag _ hz)⟩,Bool.and_true];exact zbj ⟨h2 x zae,h4 _ zae⟩
theorem DR {z:List aH}:lU z=true↔(∀x∈z,x.w≠0)/\∀(i:Nat) x y,z[i]? =some x->z[i+1]? =some y->jU x.row y.row<0:=by
 match z with
 | []=>simp[lU]
 | [x]=>simp[lU]
 | x::y::l=>
  rw[lU,zbr,decide_eq_true_eq,DR (z:=y::l)];constructor
  .rintro⟨⟨h1,h2⟩,h3,h4⟩
   refine⟨λa ha=>?_,λi a b ha hb=>?_⟩
   .rcases zan.1 ha with e | e
    .rw[e];exact h1
    exact h3 a e
   cases i with
   | zero=>simp at ha hb;subst ha;subst hb;exact h2
   | succ i=>exact h4 i a b (by simpa using ha) (by simpa using hb)
  rintro⟨h1,h2⟩;exact⟨⟨h1 x zae,h2 0 x y rfl rfl⟩,λa ha=>h1 a (zag _ ha),λi a b ha hb=>h2 (i+1) a b (by simpa using ha) (by simpa using hb)⟩
end Go.Proofs.YtkfpleidaoaonaaGreatDoor
namespace Go.Mw
open Go.RowKit
theorem Sep.ajc {w0 w:Wd} {X:Wd->Prop} {rs:List HP} {p:HP} {put:HP->List HP} (H:Sep w0 noB (gy X::rs) w) (hat:At rs p put):
    ∃F,p.ok F w/\(∀b,F b->w0.heap.size<=b)/\(∀w1,Kept F w w1->X w1/\Kept noB w0 w1)/\∀w' F' p',Kept F w w'->p'.ok F' w'->(∀b,F' b->F b\/w.heap.size<=b)->Sep w0 noB (gy X::put p') w':=by
  obtain⟨F,Fq,hp,hq,hd,hS,jO⟩:=H.ae1 hat;have hS': ∀b,F b->w0.heap.size<=b:=λb hb=>(hS b hb).resolve_left id;exact⟨F,hp,hS',λw1 hk=>⟨hq.1 w1 hk.size λb hb=>hk.block b (hq.2 b hb) (hd b hb),H.kept.trans hk λb hb=>.inr (hS' b hb)⟩,jO⟩
end Go.Mw
namespace Go.Proofs.YtkfpleidaoaonaaGreatDoor
open Go Go.Mw Go.Lib Go.Sort
set_option maxRecDepth 4000
attribute [local irreducible] FW FL FG FGn fZ gG cO gW Qfn Gives
def DT (n:Nat):LV:=[I n]
instance:jf DT 1:=⟨λ_=>rfl⟩
theorem Tv {α β:Type} {e k:Nat} {enc:β->LV} {g:α->β} {v:Value} {l:List α}:bJ e k enc v (l.map g)=bJ e k (λx=>enc (g x)) v l:=by
 unfold bJ;rw[zaf,List.flatMap_map]
theorem agF {α:Type} [Inhabited α] {enc:α->LV} {k:Nat} [hk:jf enc k] {w:Wd} {A:OA} {l:List α} {c j:Nat} (h:Mw.Rd w A enc k l) (hj:j<=l.length) (hc:l.length<=c):Mw.Rd w (if c=j then A else A.map (·.add (j*k))) enc k (l.drop j):=by
 have:=gV.cut h (k:=j) (cap:=c) hj hc;unfold Mw.Rd;rw[zbq]
 have e0:((l.take j).flatMap enc).length=j*k:=by
  rw[jr hk.len (l.take j),zaj,zcv hj]
 have e:(l.flatMap enc).drop (j*k)=(l.drop j).flatMap enc:=by
  conv=>lhs;rw[<-zbs j l,zby]
  exact List.drop_left' e0
 rw[<-e];exact this
def uH (n i:Nat):List Nat:=List.range i++List.replicate (n-i) 0
theorem NH {n i:Nat} (h:i<=n):(uH n i).length=n:=by
 unfold uH;rw[zad,zdn,zeo];omega
theorem aam {n i:Nat} (h:i<n):(uH n i).set i i=uH n (i+1):=by
 unfold uH;rw[zfj _ _ (by rw[zdn];exact zbk _),zdn,zet,show n-i=(n-(i+1))+1 from oM,zfa,zea,List.range_succ,zbp];rfl
theorem ady {n i:Nat} (h:i<n):(uH n i)[i]? =some 0:=by
 unfold uH;rw[zbv (by rw[zdn];exact zbk _),zdn,zet,show n-i=(n-(i+1))+1 from oM,zfa];rfl
theorem aan (n:Nat):uH n n=List.range n:=by unfold uH;rw[zet];simp
section
variable {w:Wd}
theorem Kw {l:List aH} {r:List (Value×Int)} {v:Value} (hr:aQ w v aG 2 r) (iI:fK w r l) {a b:Nat} {x y:aH} (hx:l[a]? =some x) (hy:l[b]? =some y):
    Rk Tryz.prog 64 [v,I a,I b] w (I (jU x.row y.row)):=by
  obtain⟨A,m,rfl,⟨hm,qX⟩,hA⟩:=hr;obtain⟨vx,hvx,Ga⟩:=iI.get hx;obtain⟨vy,hvy,hsy⟩:=iI.get hy;have hla:=gN hvx;have hlb:=gN hvy;have H:=Sep.aJ w;refine y7 Tryz.func64 rfl rfl rfl rfl ?_;refine Zb1 ?_;refine Ds (λk _ S=>?_);refine abJ ?_;refine gI k 10 _ S (aal (Ga.keep S.kept) (hsy.keep S.kept)) (h:=λ_ S _=>⟨sT,?_⟩);refine Zb1 ?_;exact⟨rfl,S.kept⟩
theorem Tw {A:OA} {n c:Nat} {fv:Value}:Rk Tryz.prog 212 [.slice A n c,I 0,I 0,fv] w (.tuple #[]):=by
 have H:=Sep.aJ w;refine y8 Tryz.func212 rfl rfl rfl rfl ?_;refine Zb3 ?_;refine aR (λ_:Unit=>[(2,I 0),(8,I 1)]) (λ_ w'=>Sep w noB [] w') (λ_ _=>0) () tR H (λ_ τ _ k=>?_)
 try simp only[cK,like,aS,bK]
 refine Za3 ?_;refine Qn (Cp rfl (λS=>?_) (λS=>?_))
 .exact zap S dC
 refine Zb0 ?_;exact⟨rfl,k.kept⟩
theorem agG {A:OA} {n c:Nat} {fv lim:Value}:Rk Tryz.prog 156 [.slice A n c,I 0,I 0,lim,fv] w (.tuple #[]):=by
 have H:=Sep.aJ w;refine Ni Tryz.func156 rfl rfl rfl rfl ?_;refine Zb2 ?_;refine aR (λ_:Unit=>[(0,.slice A n c),(1,I 0),(2,I 0),(3,lim),(4,fv),(10,.bool true),(11,.bool true)]) (λ_ w'=>Sep w noB [] w') (λ_ _=>0) () tR H (λ_ τ _ k=>?_)
 try simp only[cK,like,aS,bK]
 refine Za6 ?_;refine Qn (Cp rfl (λS=>?_) (λS=>?_))
 .refine Zb4 ?_
  refine aD k Tw (h:=λ_ k _=>?_);refine Zb0 ?_;exact⟨rfl,k.kept⟩
 exact zap S dC
theorem Qo {A:OA} {c:Nat} {fv:Value}:Rk Tryz.prog 105 [.slice A 0 c,fv] w (.tuple #[]):=by
 have H:=Sep.aJ w;refine dF Tryz.func105 rfl rfl rfl rfl ?_;refine Zb6 ?_;refine Vv (Gives.zx (c:=0) rfl (by rw[IntKind.wrap_u64];rfl)) ?_;refine eY (CV 0 dC) (h:=?_);refine Mv ?_;refine aD H agG (h:=λ_ k _=>?_);refine Zb0 ?_;exact⟨rfl,k.kept⟩
theorem MO {a b c:List ay} (h: ¬jU a b<0) (h2: ¬jU b c<0): ¬jU a c<0:=by
 have h3:jU b a<=0:=by rw[ig.anti];omega
 have h4:jU c b<=0:=by rw[ig.anti];omega
 intro h5;have:=EZ h4 (E8 (EZ h3 h5) (Int.le_of_eq (ig.self c)));have h6:=EZ h3 h5;have h7:=E8 h6 h4;rw[ig.self]at h7;omega
theorem WK {α:Type} [Inhabited α] {d d':Array α} {n:Nat} (hn:n=d.size) (h:PermIn 0 n d d'):d'.toList.Perm d.toList:=by
 obtain⟨h1,_,h2⟩:=h
 have e: ∀x:Array α,x.size=n->(x.extract 0 n).toList=x.toList:=λx hx=>by
  rw[Array.toList_extract,zfq,zdb,zfg,zax (by rw[zfy];omega)]
 rw[e d' oM,e d hn.symm]at h2;exact h2
theorem agH {α:Type} [Inhabited α] (g:α->List ay):SWO (ltC λx y=>jU (g x) (g y)) where
 irrefl x:=zas (by show ¬jU (g x) (g x)<0;rw[ig.self];omega)
 trans x y z h1 h2:=zbj (ig.trans _ _ _ (zba h1) (zba h2))
 ntrans x y z h1 h2:=zas (MO (of_decide_eq_false h1) (of_decide_eq_false h2))
theorem Qp {w0:Wd} {F:NP} {l:List aH} {r:List (Value×Int)} {v:Value} {B:OA} {c:Nat} (hr:aQ w0 v aG 2 r) (iI:fK w0 r l) (hk: ∀w1,Kept F w w1->Kept noB w0 w1)
    (hp:(bJ 3 1 DT (.slice B l.length c) (List.range l.length)).ok F w) (hn:l.length<=1000):
    aY Tryz.prog 105 [.slice B l.length c,.func (.func 64) #[v] #[]] w λu w'=>∃ps:List Nat,u=.tuple #[]/\(ps.Perm (List.range l.length)/\ps.Pairwise λi j=>∀a b,l[i]? =some a->l[j]? =some b->jU a.row b.row<=0)/\Turn F (bJ 3 1 DT (.slice B l.length c) ps) w w':=by
  obtain⟨m,hm⟩: ∃m,m=l.length:=⟨_,rfl⟩;rw[<-hm]at hp hn ⊢;cases m with
  | zero=>
    refine aY.mono Qo λu w' hu=>?_;obtain⟨rfl,yK⟩:=hu;exact⟨[],rfl,⟨List.Perm.refl _,List.Pairwise.nil⟩,yK.mono λ_ h=>h.elim,F,HP.stay hp yK,λ_ h=>.inl h⟩
  | succ m=>
    have bH: ∀x:Fin (m+1),x.val<l.length:=λx=>by have:=x.isLt;omega
    obtain⟨d₀,hd₀⟩: ∃d₀:Array (Fin (m+1)),d₀=(List.finRange (m+1)).toArray:=⟨_,rfl⟩;have VU:m+1=d₀.size:=by rw[hd₀];simp
    have hdl:d₀.toList.map (·.val)=List.range (m+1):=by
      rw[hd₀];refine List.ext_getElem sM λi h1 h2=>?_;simp
    have hp':(fJ (λx:Fin (m+1)=>(x.val:Int)) B (m+1) c d₀).ok F w:=by
      unfold fJ;have:=hp;rw[<-hdl,Tv]at this;exact this
    have nH:nX Tryz.prog (.func (.func 64) #[v] #[]) (λx:Fin (m+1)=>(x.val:Int)) (λx y=>jU (l[x.val]'(bH x)).row (l[y.val]'(bH y)).row) F w:=
      ⟨_,[v],[],rfl,inferInstance,λw1 h1 x y=>Kw (hr.keep (hk w1 h1)) (iI.keep (hk w1 h1)) (zaa (bH x)) (zaa (bH y))⟩
    refine aY.mono (Tq (agH λx:Fin (m+1)=>(l[x.val]'(bH x)).row) hp' VU oM nH) λu w' hu=>?_;obtain⟨d',rfl,⟨h1,h2⟩,ht⟩:=hu;refine⟨d'.toList.map (·.val),rfl,⟨?_,?_⟩,?_⟩
    . rw[<-hdl]
      exact(WK VU h1).map _
    . rw[List.pairwise_map,zfr]
      intro i j hi hj Yy a b ha hb;rw[zfy]at hi hj;have h3:=h2 i j (zaq _) Yy (by have:=h1.1;omega);have h4:=of_decide_eq_false h3;rw[getElem!_pos d' j hj,getElem!_pos d' i hi]at h4;dsimp only at h4;rw[Array.getElem_toList]at ha hb;rw[zaa (bH _)]at ha hb;injection ha with ha
      injection hb with hb
      subst ha;subst hb;rw[ig.anti];omega
    rw[Tv];exact ht
theorem aao {l:List aH} {v:Value} (hl:eT w v l) (hn:l.length<=1000):
    aY Tryz.prog 65 [v] w λu w'=>∃x:Value×List Nat,u=x.1/\(x.2.Perm (List.range l.length)/\x.2.Pairwise λi j=>∀a b,l[i]? =some a->l[j]? =some b->jU a.row b.row<=0)/\Turn noB (bJ 3 1 DT x.1 x.2) w w':=by
  obtain⟨r,hr,iI⟩:=hl;have BD:=iI.len;have Yz:=hr;obtain⟨A,m,rfl,⟨hm,qX⟩,hA⟩:=hr;have H:=Sep.aJ w;refine dI Tryz.func65 rfl rfl rfl rfl ?_;refine Zb3 ?_;refine ae4 H (k:=r.length) (by unfold maxLen;omega) oM (h:=λb3 S c _=>?_)
  have c:Sep w noB (bJ 3 1 DT (.slice (some ⟨b3,0,none⟩) r.length r.length) (uH r.length 0)::[]) S:=by
    have h0:=Sep.o7 (n:=r.length) (s:=1) c At0 sM (by unfold maxLen;omega);unfold bJ;rw[NH (zaq _)]
    have e:(uH r.length 0).flatMap DT=List.replicate r.length (Value.int .i64 0):=by
      unfold uH;rw[List.range_zero,zcb,zfg];clear h0 BD Yz hm qX hA
      induction r.length with
      | zero=>rfl
      | succ k ih=>rw[zfa,zbc,ih,zfa];rfl
    rw[e];exact h0
  refine Zb4 ?_;refine aR (λi:Nat=>[(0,.slice A r.length m),(3,.slice (some ⟨b3,0,none⟩) r.length r.length),(9,I r.length),(10,I i)]) (λi w'=>i<=r.length/\Sep w noB [bJ 3 1 DT (.slice (some ⟨b3,0,none⟩) r.length r.length) (uH r.length i)] w') (λi _=>r.length-i) 0 tR ⟨zaq _,c⟩ (λi τ _ hI=>?_);obtain⟨hi,c⟩:=hI
  try simp only[cK,like,aS,bK]
  refine Za1 ?_;refine Qn (dW (Cp rfl (λS=>?_) (λS=>?_)))
  . have bH:i<r.length:=oM
    refine Zb5 ?_;refine Vv (Gives.idx rfl rfl bH) (Ns (enc:=DT) (l:=uH r.length i) (f:=0) i (NH hi).symm c At0 (ady bH) dC rfl rfl rfl rfl (h:=λ_ S=>?_));rw[aam bH]at S;refine Zb0 ?_;refine Vc ((i+1:Nat):Int) ?_;refine Zb1 ?_;exact aj (i+1) tR ⟨oM,S⟩ oM
  have oQ:i=r.length:=oM;rw[oQ,aan]at c;refine Zb3 ?_;rw[BD]at c ⊢;obtain⟨F0,dS,gH,aI⟩:=c.focus At0;refine aK (Qp (v:=.slice A l.length m) (by rw[<-BD];exact Yz) iI (λ_ h1=>c.kept.trans h1 λb hb=>.inr ((gH b hb).resolve_left id)) dS hn) rfl rfl (λv' _ hv=>?_);obtain⟨ps,rfl,hps,aok,F1,hq,hs⟩:=hv;have c:=aI _ F1 _ aok hq hs;refine Zb2 ?_;exact⟨(_,ps),rfl,hps,c.turn⟩
end
end Go.Proofs.YtkfpleidaoaonaaGreatDoor
namespace Go.Proofs.YtkfpleidaoaonaaGreatDoor
open Go Go.Mw Go.Lib
set_option maxRecDepth 4000
attribute [local irreducible] FW FL FG FGn fZ gG cO gW Qfn Gives
def aap (A:OA) (c:Nat):Nat->OA
 | 0=>A
 | i+1=>if c-i=1 then aap A c i else(aap A c i).map (·.add 1)
theorem WL {w:Wd} {A:OA} {ps:List Nat} {c:Nat} (h:Mw.Rd w A DT 1 ps) (hc:ps.length<=c): ∀i,i<=ps.length->Mw.Rd w (aap A c i) DT 1 (ps.drop i)
 | 0,_=>by rw[zdb];exact h
 | i+1,hi=>by
  have h1:=agF (c:=c-i) (j:=1) (WL h hc i oM) (by rw[zbq];omega) (by rw[zbq];omega);rw[zfs,Nat.one_mul]at h1;exact h1
theorem bL {α:Type} {w:Wd} {A:OA} {c m k:Nat} {enc:α->LV} {l:List α} (h:aQ w (.slice A m c) enc k l):Mw.Rd w A enc k l:=by
 obtain⟨A',c',e,_,hr⟩:=h;injection e with e1 e2 e3
 subst e1;exact hr
def psV (A:OA) (c n i:Nat):Value:=.slice (aap A c i) (n-i) (c-i)
theorem Gives.am3 {P:Program} {ρ:Od->Value} {ty:Td} {w:Wd} {x y:Od} {t e:Td} [ht:dh P t e] {bytes:Nat} [hc:Cells P e 1 bytes] {A:OA} {c n i:Nat} (hx:ρ x=psV A c n i) (hy:ρ y=I 1) (hi:i<n):Gives P ρ (.slice t x (some y) none none) ty w (psV A c n (i+1)) w:=by
 have h:=Gives.sliceFrom (P:=P) (ρ:=ρ) (ty:=ty) (w:=w) (t:=t) (e:=e) (x:=x) (y:=y) (l:=1) hx hy oM;exact h
theorem Gives.ajd {P:Program} {ρ:Od->Value} {ty:Td} {w w0:Wd} {x y:Od} {t e:Td} [ht:dh P t e] {bytes:Nat} [hc:Cells P e 1 bytes] {A:OA} {c j:Nat} {ps:List Nat} (hx:ρ x=psV A c ps.length j) (hy:ρ y=I 0) (hr:Mw.Rd w0 A DT 1 ps) (hcap:ps.length<=c) (hj:j<ps.length):Gives P ρ (.indexAddr t x y) ty w (adr (aap A c j) 0) w:=by
 have h0:=WL hr hcap j oM;have hl:(ps.drop j).length=ps.length-j:=zbq;exact Gives.jJ (i:=0) (by rw[hl];exact hx) hy h0 oM
theorem Gives.adz {P:Program} {ρ:Od->Value} {ty:Td} {w:Wd} {x:Od} {T:Td} [OneCell P T] {A:OA} {c j p:Nat} {ps:List Nat} (hx:ρ x=adr (aap A c j) 0) (hr:Mw.Rd w A DT 1 ps) (hcap:ps.length<=c) (hj:ps[j]? =some p):Gives P ρ (.load T x) ty w (I p) w:=by
 have h0:=WL hr hcap j (by have:=gN hj;omega);exact Gives.jc (i:=0) (f:=0) hx (Sep.aJ w) h0 (by rw[zco];exact hj) rfl
theorem adA {l:List aH} (hf: ∀o∈l,fits o.w) (r:List ay): -((l.length:Int)*9223372036854775808)<=wtL l r/\wtL l r<=(l.length:Int)*9223372036854775808:=by
 induction l with
 | nil=>exact⟨Int.le_refl _,Int.le_refl _⟩
 | cons x l ih=>
  obtain⟨h1,h2⟩:=ih λo ho=>hf o (zag _ ho);obtain⟨h3,h4⟩:=hf x zae;rw[wtL,zal]
  split<;>omega
theorem agI {l:List aH} {i:Nat} {o:aH} {r:List ay} (h:l[i]? =some o) (he:o.row=r):wtL (l.take (i+1)) r=wtL (l.take i) r+o.w:=by
 rw[zbd,h,iD];show _+((if o.row=r then o.w else 0)+0)=_
 rw[zac he,Int.add_zero]
def am4 (y:Value) (s:Int):Value:=.tuple #[agg (aG (y,if eO s=true then s else 0)),I (if eO s=true then 0 else 50)]
section
variable {w:Wd} {F:NP}
theorem adB {b0 b4 b1:Nat} {E0 E4 E1:Td} {A:OA} {c j p0:Nat} {ps:List Nat} {V:Value} {r:List (Value×Int)} {l q:List aH} {x:aH}
    (hp:(star (blk b0 [psV A c ps.length j] E0) (star (blk b4 [V] E4) (blk b1 [V] E1))).ok F w) (hS: ∀w1,Kept F w w1->Mw.Rd w1 A DT 1 ps) (hc:ps.length<=c)
    (hV: ∀w1,Kept F w w1->aQ w1 V aG 2 r) (iI: ∀w1,Kept F w w1->fK w1 r l) (hj:ps[j]? =some p0) (hx:l[p0]? =some x) (hq: ∀(i p:Nat),ps[i]? =some p->p<l.length/\l[p]? =q[i]?) (hql:q.length=ps.length)
    (hn:ps.length<=1000) (hl:l.length<=1000) (hf: ∀o∈q,fits o.w) (uS:x.row.length<=1000):
    aY Tryz.prog 66 [av b0,av b4,av b1] w λu w'=>∃z:Value×Nat,u=am4 z.1 (wtL ((q.drop j).take z.2) x.row)/\(0<z.2/\j+z.2<=ps.length/\(∀o∈(q.drop j).take z.2,o.row=x.row)/\∀o,(q.drop j)[z.2]? =some o->o.row≠x.row)/\
      Turn F (star (bJ 52 3 ah z.1 x.row) (star (blk b0 [psV A c ps.length (j+z.2)] E0) (star (blk b4 [V] E4) (blk b1 [V] E1)))) w w':=by
  have H:=((Sep.bW hp).bR).aL.bR;have hjl:=gN hj;obtain⟨Yu,hpq⟩:=hq j p0 hj;have hqx:q[j]? =some x:=by rw[<-hpq];exact hx
  have hxq:(q.drop j)[0]? =some x:=by rw[zco];exact hqx
  have hdl:(q.drop j).length=ps.length-j:=by rw[zbq,hql]
  have hfd: ∀o∈q.drop j,fits o.w:=λo ho=>hf o (zfp ho);obtain⟨B,m,hVe,⟨hBm,qX⟩,_⟩:=hV w (Kept.refl _ _);subst hVe;obtain⟨vx,hvx,Ga⟩:=(iI w (Kept.refl _ _)).get hx;have BD:=(iI w (Kept.refl _ _)).len;obtain⟨E6,hE6⟩: ∃E6,E6=123:=⟨_,rfl⟩;refine Q9 Tryz.func66 rfl rfl rfl rfl ?_;refine Sr (aO H (h:=λb3 _ S _=>?_));refine Zb2 ?_;refine Vv (Gives.ajd rfl rfl (hS _ S.kept) hc hjl) (Vv (Gives.adz rfl (hS _ S.kept) hc hj) ?_);refine Zb1 ?_;refine aO S (h:=λb6 _ S _=>?_);refine Zb0 ?_;refine aR (λi:Nat=>[(0,av b0),(1,av b4),(2,av b1),(3,av b3),(4,I 0),(5,I p0),(6,av b6)]) (λi w'=>(j+i<=ps.length/\∀o∈(q.drop j).take i,o.row=x.row)/\Sep w F [blk b6 (bT (wtL ((q.drop j).take i) x.row)) 123,blk b3 (aG (.slice none 0 0,0)) 82,blk b4 [.slice B r.length m] E4,blk b1 [.slice B r.length m] E1,blk b0 [psV A c ps.length (j+i)] E0] w') (λi _=>ps.length-i) 0 tR ⟨⟨oM,λo ho=>by simp at ho⟩,S⟩ (λi τ _ hI=>?_);obtain⟨⟨hi,jN⟩,S⟩:=hI;have hS1:=hS _ S.kept
  try simp only[cK,like,aS,bK]
  refine Zb0 ?_;refine Ds (λS _ a=>?_);refine Zb2 ?_;refine GS (Gn rfl (λ_=>(Gives.gtr (k:=.i64) rfl rfl)) ?_);refine Zb1 ?_;refine iM (t:=15) rfl (λb=>?_) (λb=>?_)
  . have bH:j+i<ps.length:=oM
    obtain⟨p1,hp1⟩:=get_some bH;obtain⟨aom,aon⟩:=hq (j+i) p1 hp1;obtain⟨o1,ho1⟩:=get_some aom;have Mr:(q.drop j)[i]? =some o1:=by rw[zco,<-aon];exact ho1
    obtain⟨vo,Ry,VZ⟩:=(iI w (Kept.refl _ _)).get ho1;refine ajt S 4 a (h:=?_);refine Zb2 ?_;refine GS (Gn rfl (λ_=>(Gives.ajd rfl rfl (hS _ a.kept) hc bH)) ?_);refine GS (Gt rfl (Gives.adz rfl (hS _ a.kept) hc hp1) ?_);refine gI S 9 _ a (Kw (hV _ a.kept) (iI _ a.kept) hx ho1) (h:=λ_ b _=>⟨sT,?_⟩);refine Za2 ?_;refine fF S kR ?_;refine bC (Cp rfl (λS=>?_) (λS=>?_))
    . have aix:o1.row=x.row:=by
        have h0:=(ig.eq0 x.row o1.row).1 oM;exact h0.symm
      have aoo:=agI Mr aix
      have al1: ∀o∈(q.drop j).take (i+1),o.row=x.row:=by
        intro o ho;rw[zbd,Mr]at ho
        rcases zbi.1 ho with h | h
        . exact jN o h
        rw[zed,zar]at h;rw[h];exact aix
      refine Zb0 ?_;refine Ds (λS _ d=>?_);refine Zb3 ?_;refine GS (Gn rfl (λ_=>(Gives.ajd rfl rfl (hS _ d.kept) hc bH)) ?_);refine GS (Gt rfl (Gives.adz rfl (hS _ d.kept) hc hp1) ?_);refine GS (Gn rfl (λ_=>(Gives.jJ rfl rfl (bL (hV _ d.kept)) (gN Ry))) ?_);refine Zb1 ?_;refine GS (Gt rfl (Gives.jc (f:=1) rfl (Sep.aJ _) (bL (hV _ d.kept)) Ry rfl) ?_);refine gI S 8 [(0,false)] d (Qj o1.w (hfd o1 (zam Mr))) (h:=λ_ d _=>⟨sU,?_⟩);refine gI S 9 _ d (Qk (wtL ((q.drop j).take i) x.row) o1.w) (h:=λ_ d _=>⟨sT,?_⟩);refine dZ S 10 _ d (h:=λ_ d=>⟨sT,?_⟩);refine Zb1 ?_;refine Vv (Gives.am3 rfl rfl bH) (bB d (h:=λ_ d=>?_));refine Zb0 ?_;exact aj (i+1) tR ⟨⟨oM,al1⟩,by rw[aoo];exact d⟩ oM
    refine Zb1 ?_
    have q8:0<i/\∀o,(q.drop j)[i]? =some o->o.row≠x.row:=by
      first
      | exact⟨oM,λo ho=>by have:=gN ho;omega⟩
      | (have iC:jU x.row o1.row≠0:=oM
         refine⟨Nat.pos_of_ne_zero λh=>iC ?_,λo ho e=>iC ?_⟩
         . subst h;rw[hxq]at Mr;injection Mr with e;rw[<-e];exact ig.self _
         rw[Mr]at ho;injection ho with ho;rw[ho,e];exact ig.self _)
    have hb:=adA (l:=(q.drop j).take i) (λo ho=>hfd o (zcy ho)) x.row;have Ml:((q.drop j).take i).length<=1000:=by rw[zaj];omega
    refine aD b (Ql (wtL ((q.drop j).take i) x.row) oM oM) (h:=λ_ d _=>?_);refine Zb7 ?_;refine Vv (Gives.jJ rfl rfl (bL (hV _ d.kept)) (gN hvx)) (Zb1 ?_);refine Vv (Gives.jc (f:=0) rfl (Sep.aJ _) (bL (hV _ d.kept)) hvx rfl) (dn d (oZ ((iI _ d.kept).2 p0 _ _ hvx hx) uS) (h:=?_));intro y d _ d b;obtain⟨Ay,cy,rfl,_,_⟩:=Sep.dQ d At0;refine Mv ?_;refine Vb (aG (.slice Ay x.row.length cy,_)) ?_;refine Mv ?_;refine ak d (h:=λ_ b=>?_);refine Am ?_;refine Qn (dX (aN (h:=?_)));exact⟨_,gK b,(_,i),rfl,⟨q8.1,hi,jN,q8.2⟩,(b.jK.jK.jK.bD.aL.bD.aL.bD).first.turn⟩
  refine Zb2 ?_
  have q8:0<i/\∀o,(q.drop j)[i]? =some o->o.row≠x.row:=by
    first
    | exact⟨oM,λo ho=>by have:=gN ho;omega⟩
    | (have iC:jU x.row o1.row≠0:=oM
       refine⟨Nat.pos_of_ne_zero λh=>iC ?_,λo ho e=>iC ?_⟩
       . subst h;rw[hxq]at Mr;injection Mr with e;rw[<-e];exact ig.self _
       rw[Mr]at ho;injection ho with ho;rw[ho,e];exact ig.self _)
  have hb:=adA (l:=(q.drop j).take i) (λo ho=>hfd o (zcy ho)) x.row;have Ml:((q.drop j).take i).length<=1000:=by rw[zaj];omega
  refine aD a (Ql (wtL ((q.drop j).take i) x.row) oM oM) (h:=λ_ b _=>?_);refine Zb7 ?_;refine Vv (Gives.jJ rfl rfl (bL (hV _ b.kept)) (gN hvx)) (Zb1 ?_);refine Vv (Gives.jc (f:=0) rfl (Sep.aJ _) (bL (hV _ b.kept)) hvx rfl) (dn b (oZ ((iI _ b.kept).2 p0 _ _ hvx hx) uS) (h:=?_));intro y b _ b a;obtain⟨Ay,cy,rfl,_,_⟩:=Sep.dQ b At0;refine Mv ?_;refine Vb (aG (.slice Ay x.row.length cy,_)) ?_;refine Mv ?_;refine ak b (h:=λ_ a=>?_);refine Am ?_;refine Qn (dX (aN (h:=?_)));exact⟨_,gK a,(_,i),rfl,⟨q8.1,hi,jN,q8.2⟩,(a.jK.jK.jK.bD.aL.bD.aL.bD).first.turn⟩
end
theorem agJ {l:List aH} {ps:List Nat} (hp:ps.Perm (List.range l.length)) (hs:ps.Pairwise λi j=>∀a b,l[i]? =some a->l[j]? =some b->jU a.row b.row<=0):
    ∃q:List aH,q.length=ps.length/\(∀(i p:Nat),ps[i]? =some p->p<l.length/\l[p]? =q[i]?)/\q.Perm l/\AB q:=by
  have bH: ∀p∈ps,p<l.length:=λp h=>zdp.1 (hp.mem_iff.1 h);refine⟨ps.map λp=>l[p]?.getD ⟨[],0⟩,zaf _,λi p h=>⟨bH p (zam h),?_⟩,?_,?_⟩
  . have h1:=bH p (zam h)
    rw[zcr,h,zda,zaa h1];rfl
  . have h2:=hp.map λp=>l[p]?.getD ⟨[],0⟩
    have e:((List.range l.length).map λp=>l[p]?.getD ⟨[],0⟩)=l:=by
      refine List.ext_getElem sM λi h1 h2=>?_;simp[zaa h2]
    rw[e]at h2;exact h2
  unfold AB;rw[List.pairwise_map];refine hs.imp_of_mem λ{a b} ha hb h=>h _ _ ?_ ?_
  . rw[zaa (bH a ha)];rfl
  rw[zaa (bH b hb)];rfl
section
variable {w:Wd}
theorem DU {l:List aH} {v:Value} (hl:eT w v l) (hn:l.length<=1000) (hf: ∀o∈l,fits o.w) (uS: ∀o∈l,o.row.length<=1000):
    aY Tryz.prog 32 [v] w λu w'=>∃x:Value×List Held,u=.tuple #[x.1,I (cZ l).2]/\x.2.map (·.2)=(cZ l).1/\Turn noB (eU x.1 x.2) w w':=by
  have Ru:=hl;obtain⟨r,hr,iI⟩:=hl;have Yz:=hr;obtain⟨B,m,rfl,⟨hm,qX⟩,hA⟩:=hr;have BD:=iI.len;have H:=Sep.aJ w;refine dI Tryz.func32 rfl rfl rfl rfl ?_;refine Sr (cB H (cs:=[.slice B r.length m]) rfl (h:=λb1 _ k _=>?_));refine Zb3 ?_;refine aO k (h:=λb4 _ k _=>?_);refine bB k (h:=λ_ k=>?_);refine Zb1 ?_;refine dn k (aao (l:=l) (Ru.keep k.kept) hn) (h:=λy _ hy k _=>?_);obtain⟨S,ps⟩:=y;obtain⟨afS,aiy⟩:=hy;dsimp only at k afS aiy ⊢;obtain⟨A,c,rfl,hc,_⟩:=Sep.dQ k At0;have k:=gL k At0;obtain⟨q,hql,hq,hqp,hqs⟩:=agJ afS aiy;have Yu:ps.length=l.length:=by rw[afS.length_eq,zdn]
  have hqf: ∀o∈q,fits o.w:=λo ho=>hf o (hqp.mem_iff.1 ho);refine aO k (h:=λb5 _ k _=>?_);refine bB k (h:=λ_ k=>?_);refine Zb2 ?_;have hin:=(Sep.jM (dN k) 82 2).jK.jK.fC.jK;refine aR (λx:(OA×Nat)×List Held×Nat=>[(1,av b1),(2,.slice x.1.1 (eu x.2.1).length x.1.2),(4,av b4),(5,av b5),(6,.func (.func 66) #[] #[av b5,av b4,av b1])]) (λx w'=>(uG l (x.2.1.map (·.2)) (q.drop x.2.2)/\x.2.2<=ps.length/\x.2.1.length<=x.2.2)/\Mw.Sep w noB [EO (.slice A ps.length c) DT 1 ps,blk b5 [psV A c ps.length x.2.2] 84,blk b4 [.slice B r.length m] 118,blk b1 [.slice B r.length m] 27,bJ 82 2 aG (.slice x.1.1 (eu x.2.1).length x.1.2) (eu x.2.1),xu 52 3 ah (·.1) (λb:Held=>b.2.row) x.2.1] w') (λx _=>ps.length-x.2.2) ((none,0),[],0) tR ⟨⟨uG.start hqp hqs,zaq _,zbk _⟩,hin⟩ (λx τ _ hI=>?_);obtain⟨⟨R,cR⟩,L,j⟩:=x;obtain⟨⟨hNI,Yx,hLj⟩,k⟩:=hI;dsimp only at hNI Yx hLj k
  try simp only[cK,like,aS,bK]
  refine Za3 ?_;refine Qn (Cp rfl (λa=>?_) (λa=>?_))
  . have bH:j<ps.length:=oM
    obtain⟨p0,dS⟩:=get_some bH;obtain⟨aop,aoq⟩:=hq j p0 dS;obtain⟨x,hx⟩:=get_some aop;have hqx:(q.drop j)[0]? =some x:=by rw[zco,zff,<-aoq];exact hx
    refine Zb1 ?_;have a:=k.bE.bE.bD.aU.bD.aL;obtain⟨F0,vC,gH,hX0,aI⟩:=Sep.ajc a At0;refine dP (fs:=[]) (cs:=[av b5,av b4,av b1]) (vals:=[]) rfl (adB (A:=A) (c:=c) (j:=j) (ps:=ps) (V:=.slice B r.length m) (r:=r) (l:=l) (q:=q) (x:=x) vC (λd h1=>bL (hX0 d h1).1) hc (λd h1=>Yz.keep (hX0 d h1).2) (λd h1=>iI.keep (hX0 d h1).2) dS hx hq hql oM hn hqf (uS x (zam hx))) rfl rfl (λv' _ hv=>?_);obtain⟨⟨y,i⟩,rfl,⟨hi0,hi1,jN,YC⟩,aor,F1,lG,d⟩:=hv;have a:=(aI _ F1 _ aor lG d).aL.bR.aL.bR.aL.bR;dsimp only at hi0 hi1 jN YC a;obtain⟨Ay,cy,rfl,_,_⟩:=Sep.dQ a At3;refine Zb3 ?_;refine aO a (h:=λb7 _ d _=>?_);refine ak d (h:=λ_ d=>?_);refine Za3 ?_;refine Qn (Cp rfl (λa=>?_) (λa=>?_))
    . have hfz: ¬eO (wtL ((q.drop j).take i) x.row)=true:=λh=>a (by rw[zac h])
      have rM:=hNI.bad hqx YC hfz;refine Zb3 ?_;exact⟨(.slice none 0 0,[]),by rw[rM];exact zbb (λz=>Value.tuple #[Value.slice none 0 0,I z]) (zab hfz),by rw[rM];rfl,(Sep.jM (dN d) 82 2).bD.first.turn⟩
    have hfz:eO (wtL ((q.drop j).take i) x.row)=true:=Decidable.of_not_not λh=>by
      have h1:=a;rw[zab h]at h1;exact h1 dC
    have xH:=hNI.step hqx jN YC hfz;rw[zfs]at xH;rw[zac hfz]at d;refine Za3 ?_;refine Qn (Cp rfl (λa=>?_) (λa=>?_))
    . rw[zac a]at xH
      refine Zb2 ?_;refine Bs d ([(Value.slice Ay x.row.length cy,wtL ((q.drop j).take i) x.row)].flatMap aG) (λbs _ e _=>?_);have hLr:(eu L).length=L.length:=zaf _;refine gP e (news:=[(Value.slice Ay x.row.length cy,wtL ((q.drop j).take i) x.row)]) At6 (by unfold maxLen;simp;omega) (by simp;omega) (λu hu=>zbf.1 (show([(Value.slice Ay x.row.length cy,wtL ((q.drop j).take i) x.row)].flatMap aG).all Value.oneCell'=true from rfl) u hu) (h:=?_);intro v9 e e;obtain⟨R2,cR2,rfl,_,_⟩:=Sep.dQ e At6;have ZG:=jV (x:=.slice Ay x.row.length cy) (o:=⟨x.row,wtL ((q.drop j).take i) x.row⟩) (e.dA.jL.fC)
      have ZH:eu L++[(Value.slice Ay x.row.length cy,wtL ((q.drop j).take i) x.row)]=eu (L++[(Value.slice Ay x.row.length cy,(⟨x.row,wtL ((q.drop j).take i) x.row⟩:aH))]):=by
        unfold eu;rw[zau];rfl
      have Ey:uG l ((L++[(Value.slice Ay x.row.length cy,(⟨x.row,wtL ((q.drop j).take i) x.row⟩:aH))]).map (·.2)) (q.drop (j+i)):=by rw[zau];exact xH
      have al2:(L++[(Value.slice Ay x.row.length cy,(⟨x.row,wtL ((q.drop j).take i) x.row⟩:aH))]).length=L.length+1:=by rw[zad];rfl
      rw[ZH]at ZG ⊢;clear ZH
      generalize L++[(Value.slice Ay x.row.length cy,(⟨x.row,wtL ((q.drop j).take i) x.row⟩:aH))]=L2 at ZG Ey al2 |-
      refine Zb1 ?_;exact aj ((R2,cR2),L2,j+i) tR ⟨⟨Ey,hi1,dO⟩,ZG.jK.bE.bE.fC.jK⟩ dO
    rw[zab a]at xH;refine Zb0 ?_;exact aj ((R,cR),L,j+i) tR ⟨⟨xH,hi1,dO⟩,d.dA.bE.dA.aU.bE⟩ dO
  have q8:j=ps.length:=oM;have nI:q.drop j=[]:=zbu oM;rw[nI]at hNI;refine Zb3 ?_;exact⟨(_,L),by rw[hNI.done];rfl,by rw[hNI.done],k.fC.jK.aL.bD.first.turn⟩
end
open Go.Proofs.Tryz
def okN (l:List aH) (i:Nat):Prop:=(∀(k:Nat) x,k<i->l[k]? =some x->x.w≠0)/\∀(k:Nat) x y,k+1<i->l[k]? =some x->l[k+1]? =some y->jU x.row y.row<0
theorem adC (l:List aH):okN l 0:=⟨λ_ _ h=>zap h (zej _),λ_ _ _ h=>zap h (zej _)⟩
theorem Tx {l:List aH} {i:Nat} {o:aH} (h:okN l i) (ho:l[i]? =some o) (h0:o.w≠0) (h1:i=0\/∃p,l[i-1]? =some p/\jU p.row o.row<0):okN l (i+1):=by
 refine⟨λk x hk hx=>?_,λk x y hk hx hy=>?_⟩
 .by_cases e:k=i
  .subst e;rw[ho]at hx;injection hx with hx;rw[<-hx];exact h0
  exact h.1 k x oM hx
 by_cases e:k+1=i
 .rcases h1 with h1 | ⟨p,hp,bH⟩
  .omega
  rw[e,ho]at hy;injection hy with hy
  rw[<-e,Nat.add_sub_cancel,hx]at hp;injection hp with hp
  rw[<-hy,hp];exact bH
 exact h.2 k x y oM hx hy
theorem agK {l:List aH} {i:Nat} (h:okN l i) (hi:l.length<=i):lU l=true:=
 DR.2 ⟨λx hx=>by
  obtain⟨k,hk,e⟩:=zfx hx;exact h.1 k x oM (by rw[zaa hk,e]),λk x y hx hy=>h.2 k x y (by have:=gN hy;omega) hx hy⟩
section
variable {w:Wd}
theorem NI {l:List aH} {v:Value} (hl:eT w v l) (hn:l.length<=1000):Rk prog 31 [v] w (I (if lU l=true then 0 else 2)):=by
 obtain⟨r,hr,iI⟩:=hl;have Yz:=hr;obtain⟨A,m,rfl,⟨hm,qX⟩,hA⟩:=hr;have BD:=iI.len;have H:=Sep.aJ w;refine dI func31 rfl rfl rfl rfl ?_;refine Zb4 ?_;refine aR (λi:Nat=>[(0,.slice A r.length m),(5,.slice A r.length m),(6,I r.length),(7,I i)]) (λi w'=>(i<=r.length/\okN l i)/\Mw.Sep w noB [] w') (λi _=>r.length-i) 0 tR ⟨⟨zaq _,adC l⟩,H⟩ (λi τ _ hI=>?_);obtain⟨⟨hi,eH⟩,k⟩:=hI
 try simp only[cK,like,aS,bK]
 refine Za1 ?_;refine Qn (dW (Cp rfl (λS=>?_) (λS=>?_)))
 .have bH:i<r.length:=oM
  have Jj:i<l.length:=oM;obtain⟨o,ho⟩:=get_some Jj;obtain⟨vo,Ry,VZ⟩:=iI.get ho;obtain⟨Ao,co,rfl,_,_⟩:=VZ;refine Zb3 ?_;refine aO k (h:=λb4 _ S _=>?_);refine Am ?_;refine ak S (h:=λ_ S=>?_);refine Zb4 ?_;refine aF (t:=15) rfl (λa=>?_) (λa=>?_)
  .refine Zb2 ?_
   have hb: ¬lU l=true:=λh=>by
    have h2:=DR.1 h
    first
    | exact h2.1 o (zam ho) oM
    | (have h3:=h2.2 (i-1) p o Ng (by rw[Nat.sub_add_cancel oM];exact ho);omega)
   exact⟨by rw[zab hb];rfl,S.kept⟩
  refine Zb3 ?_;refine aF (t:=18) rfl (λa=>?_) (λa=>?_)
  .refine Zb2 ?_
   obtain⟨p,Ng⟩:=get_some (l:=l) (show i-1<l.length from oM);refine Vc ((i-1:Nat):Int) ?_;refine Zb1 ?_;refine aD S (Kw (Yz.keep S.kept) (iI.keep S.kept) Ng ho) (h:=λ_ a _=>?_);refine Za3 ?_;refine Qn (Cp rfl (λb=>?_) (λb=>?_))
   .refine Zb1 ?_
    have hb: ¬lU l=true:=λh=>by
     have h2:=DR.1 h
     first
     | exact h2.1 o (zam ho) oM
     | (have h3:=h2.2 (i-1) p o Ng (by rw[Nat.sub_add_cancel oM];exact ho);omega)
    exact⟨by rw[zab hb];rfl,a.kept⟩
   refine Zb0 ?_;refine Vc ((i+1:Nat):Int) ?_;refine Zb1 ?_;exact aj (i+1) tR ⟨⟨oM,Tx eH ho oM (by first | exact .inl oM | exact .inr ⟨p,Ng,oM⟩)⟩,a.dA⟩ oM
  refine Zb2 ?_;refine Vc ((i+1:Nat):Int) ?_;refine Zb1 ?_;exact aj (i+1) tR ⟨⟨oM,Tx eH ho oM (by first | exact .inl oM | exact .inr ⟨p,Ng,oM⟩)⟩,S.dA⟩ oM
 have q8:l.length<=i:=oM;refine Zb1 ?_;exact⟨by rw[zac (agK eH q8)];rfl,k.kept⟩
theorem adD {a b:List ay} {va vb:Value} {n m:Int} (ha:aQ w va ah 3 a) (hb:aQ w vb ah 3 b):Rk prog 61 [agg (aG (va,n)),agg (aG (vb,m))] w (.bool (decide (n=m/\a=b))):=by
 have H:=Sep.aJ w;refine dF func61 rfl rfl rfl rfl ?_;refine Sr (cB H (cs:=aG (va,n)) rfl (h:=λb2 _ k _=>?_));refine cB k (cs:=aG (vb,m)) rfl (h:=λb3 _ k _=>?_);refine Zb7 ?_;refine aF (t:=10) rfl (λS=>?_) (λS=>?_)
 .refine Zb4 ?_
  refine aD k (WJ (ha.keep k.kept) (hb.keep k.kept)) (h:=λ_ S _=>?_);refine Zb2 ?_;exact⟨by simp only[*,true_and,false_and,decide_false,eP]<;>rfl,S.kept⟩
 refine Zb2 ?_;exact⟨by simp only[*,true_and,false_and,decide_false,eP]<;>rfl,k.kept⟩
end
def shl:Int->Nat->Int
 | v,0=>v
 | v,i+1=>shl v i/4294967296
section
variable {w:Wd}
end
def pw:Nat->Int
 | 0=>1
 | 1=>4294967296
 | _=>18446744073709551616
section
variable {w:Wd}
def agL (x:Int×Int):LV:=[I x.1,I x.2]
instance:jf agL 2:=⟨λ_=>rfl⟩
end
def eD (sums:Nat) (E:List bQ) (k:List ay):List Int:=(List.range (sums+1)).map (nW E k)
def stE (sums:Nat) (E:List bQ) (k:List ay):Option (List Int):=if((eD sums E k).any λn=>decide (n≠0))=true then some (eD sums E k)else none
def iO (ns:List Int) (k:List ay) (w:Int):List aH:=if ns.headD 0=0 then []else [⟨k++ns.map uh,w⟩]
def YW (o:Option (List Int)) (k:List ay) (w:Int):List aH:=iO (o.getD []) k w
def jq (l:List bQ):List (List ay):=l.foldl (λks x=>if x.key∈ks then ks else ks++[x.key]) []
theorem sV (l:List bQ) (x:bQ):jq (l++[x])=if x.key∈jq l then jq l else jq l++[x.key]:=by
 unfold jq;rw[List.foldl_append];rfl
theorem Ky {α:Type} {p:List α->Prop} (h0:p []) (h1: ∀l x,p l->p (l++[x])) (l:List α):p l:=by
 rw[<-List.reverse_reverse l]
 induction l.reverse with
 | nil=>exact h0
 | cons x t ih=>rw[List.reverse_cons];exact h1 _ _ ih
theorem AJ {k:List ay} (l:List bQ):k∈jq l↔∃x∈l,x.key=k:=by
 refine Ky (p:=λl=>k∈jq l↔∃x∈l,x.key=k) (by simp[jq]) (λl x ih=>?_) l;rw[sV]
 have hr:(∃y∈l++[x],y.key=k)↔(∃y∈l,y.key=k)\/x.key=k:=by
  constructor
  .rintro⟨y,hy,e⟩
   rcases zbi.1 hy with h | h
   .exact .inl ⟨y,h,e⟩
   rw[zar]at h;subst h;exact .inr e
  rintro(⟨y,hy,e⟩ | e)
  .exact⟨y,zcd _ hy,e⟩
  exact⟨x,sM,e⟩
 rw[hr,<-ih]
 split
 .rename_i h
  exact⟨.inl,λh2=>h2.elim id λe=>by rw[<-e];exact h⟩
 rw[zbi,zar,eq_comm (a:=k) (b:=x.key)]
theorem Kz (l:List bQ):(jq l).Nodup:=by
 refine Ky (p:=λl=>(jq l).Nodup) (by simp[jq]) (λl x ih=>?_) l;rw[sV]
 split
 .exact ih
 rename_i h;rw[zei];exact⟨ih,sM,λa ha b hb e=>by rw[zar]at hb;subst hb;subst e;exact h ha⟩
section
variable {sums:Nat} {E l:List bQ} {k:List ay} {r:List ay}
theorem mg:(eD sums E k).length=sums+1:=by unfold eD;rw[zaf,zdn]
theorem CW:(eD sums E k).headD 0=nW E k 0:=by
 unfold eD;rw[List.range_succ_eq_map,zay];rfl
theorem vP {i:Nat} (hi:i<=sums):(eD sums E k)[i]? =some (nW E k i):=by
 unfold eD;rw[zcr,List.getElem?_range oM];rfl
theorem zA (h:k∉jq l):eD sums (E++l) k=eD sums E k:=by
 unfold eD;refine zcw λi _=>?_;rw[sQ,zo (l:=l) λx hx e=>h ((AJ l).2 ⟨x,hx,e⟩),Int.add_zero]
theorem aaq (h:k∉jq l):stE sums (E++l) k=stE sums E k:=by unfold stE;rw[zA h]
theorem xV (h:stE sums E k=none) {i:Nat} (hi:i<=sums):nW E k i=0:=by
 unfold stE at h
 split at h
 .cases h
 rename_i h2
 by_cases e:nW E k i=0
 .exact e
 refine zap (List.any_eq_true.2 ⟨nW E k i,?_,zbj e⟩) h2;exact zam (vP hi)
theorem KA {ns:List Int} (h:stE sums E k=some ns):ns=eD sums E k:=by
 unfold stE at h
 split at h
 .injection h with h;exact h.symm
 cases h
theorem adE (w:Int):YW (stE sums E k) k w=iO (eD sums E k) k w:=by
 unfold YW;cases h:stE sums E k with
 | none=>
  unfold iO;rw[CW,xV h (zaq _),zac rfl];rfl
 | some ns=>rw[KA h];rfl
theorem Gy {α β:Type} (p:α->Bool) (f:α->β): ∀ks:List α,(ks.flatMap λk=>if p k=true then [f k]else [])=(ks.filter p).map f
 | []=>rfl
 | k::ks=>by
  rw[zbc,Gy p f ks,zel]
  split<;>rfl
theorem adF (w:Int):iO (eD sums E k) k w=if decide (nW E k 0≠0)=true then [⟨aai sums E k,w⟩]else []:=by
 unfold iO;rw[CW]
 by_cases h:nW E k 0=0
 .rw[zac h,zab (by simp[h])]
 rw[zab h,zac (by simp[h])];unfold aai eD;rw[zdt];rfl
theorem aar (ks:List (List ay)):(ks.flatMap λk=>iO (eD sums E k) k 1)=(ks.filter λk=>decide (nW E k 0≠0)).map λk=>⟨aai sums E k,1⟩:=by
 rw[<-Gy]
 congr 1
 funext k
 exact adF 1
theorem KC {ks:List (List ay)} (hn:ks.Nodup) (hk: ∀k,nW E k 0≠0->k∈ks) (r:List ay):wtL (ks.flatMap λk=>iO (eD sums E k) k 1) r=wtL (mZ sums E) r:=by
 rw[aar];refine Tt (List.Perm.map _ ?_) r;refine(List.perm_ext_iff_of_nodup (hn.sublist zdl) ((pK (rW E)).sublist zdl)).2 λa=>?_;rw[zbw,zbw];constructor
 .rintro⟨_,h⟩;exact⟨CS (zba h),h⟩
 rintro⟨_,h⟩;exact⟨hk a (zba h),h⟩
theorem aas (ns:List Int) (k r:List ay):wtL (iO ns k (-1)) r= -wtL (iO ns k 1) r:=by
 unfold iO
 split
 .rfl
 rw[wtL,wtL,wtL,wtL];split<;>rfl
theorem adG (f g:List ay->List aH) (hf: ∀k r,wtL (f k) r= -wtL (g k) r) (h:List ay->List aH) (r:List ay): ∀ks:List (List ay),wtL (ks.flatMap λk=>f k++h k) r=wtL (ks.flatMap h) r-wtL (ks.flatMap g) r
 | []=>rfl
 | k::ks=>by
  rw[zbc,zbc,zbc,iD,iD,iD,iD,adG f g hf h r ks,hf];omega
theorem adH {done:List (List ay)} (hp:done.Perm (jq l)) (r:List ay):
    wtL (done.flatMap λk=>iO (eD sums E k) k (-1)++iO (eD sums (E++l) k) k 1) r=wtL (mZ sums (E++l)) r-wtL (mZ sums E) r:=by
  rw[adG _ (λk=>iO (eD sums E k) k 1) (λk r=>aas _ k r)];have hnk:=pK (rW (E++l));have hdn:done.Nodup:=hp.nodup_iff.2 (Kz l);have hdm: ∀k,k∈done↔k∈jq l:=λk=>hp.mem_iff
  have gT: ∀k,k∈jq l->k∈qG (E++l):=λk hk=>by
    obtain⟨x,hx,e⟩:=(AJ l).1 hk;exact oV.2 ⟨x,zce _ hx,e⟩
  obtain⟨ot,hot⟩: ∃ot,ot=(qG (E++l)).filter λk=>decide (k∉jq l):=⟨_,rfl⟩
  have hom: ∀k∈ot,k∈qG (E++l)/\k∉jq l:=λk hk=>by
    rw[hot,zbw]at hk;exact⟨hk.1,zba hk.2⟩
  have hks:(done++ot).Nodup:=by
    rw[zei];refine⟨hdn,by rw[hot];exact hnk.sublist zdl,λa ha b hb e=>?_⟩;subst e;exact(hom a hb).2 ((hdm a).1 ha)
  have jN: ∀k,k∈qG (E++l)->k∈done++ot:=λk hk=>by
    rw[zbi]
    by_cases h:k∈jq l
    . exact .inl ((hdm k).2 h)
    right;rw[hot,zbw];exact⟨hk,zbj h⟩
  have h1:=KC (sums:=sums) (E:=E++l) hks (λk hk=>jN k (CS hk)) r
  have h2:=KC (sums:=sums) (E:=E) hks (λk hk=>jN k (by
    obtain⟨x,hx,e⟩:=oV.1 (CS hk);exact oV.2 ⟨x,zcd _ hx,e⟩)) r
  rw[zby,iD]at h1 h2
  have h3:(ot.flatMap λk=>iO (eD sums (E++l) k) k 1)=ot.flatMap λk=>iO (eD sums E k) k 1:=by
    rw[List.flatMap_def,List.flatMap_def]
    congr 1
    exact zcw λk hk=>by rw[zA (hom k hk).2]
  rw[h3]at h1;omega
theorem WM {done:List (List ay)} (hp:done.Perm (jq l)):
    cZ (done.flatMap λk=>iO (eD sums E k) k (-1)++iO (eD sums (E++l) k) k 1)=cZ (mZ sums (E++l)++Ti (mZ sums E)):=
  zn λr=>by rw[adH hp,iD,adj];omega
theorem aat (hE:yR sums E=true):yR sums (E++l)=true↔∀k∈jq l,∀n∈eD sums (E++l) k,eO n=true:=by
 rw[zq];constructor
 .intro h k _ n hn
  obtain⟨i,hi,rfl⟩:=zat.1 hn;rw[zdp]at hi;exact h k i oM
 intro h k i hi
 by_cases hk:k∈jq l
 .exact h k hk _ (zam (vP hi))
 rw[sQ,zo (l:=l) λx hx e=>hk ((AJ l).2 ⟨x,hx,e⟩),Int.add_zero];exact zq.1 hE k i hi
theorem aau {keys:Nat} (hE: ∀x∈E,x.key.length=keys) {ks:List (List ay)} (hn:ks.Nodup) (hk: ∀k,stE sums E k≠none->k∈ks):
    cZ (ks.flatMap λk=>YW (stE sums E k) k 1)=(mZ sums E,0):=by
  rw[<-Nv (adi (sums:=sums) hE)];refine zn λr=>?_;rw[<-KC (sums:=sums) hn (λk h=>hk k λe=>h (xV e (zaq _))) r]
  congr 2
  funext k
  exact adE 1
end
def vQ (keys sums:Nat) (E l:List bQ):List aH×Int:=
 if(l.all λx=>vN keys sums x)=false then([],2)else if yR sums (E++l)=false then([],50)else cZ (mZ sums (E++l)++Ti (mZ sums E))
theorem adI {g:Int} {n:Nat} {T m:List aH} (hg: ¬g<0) (hT:(gB g n T).2=0):nQ g n T m=vQ g.toNat (n-g.toNat) (T.map (fM g.toNat)) (m.map (fM g.toNat)):=by
 have hs:=uY hg hT;obtain⟨h1,h2⟩:=(sS hg).1 hT;have ha:((T++m).all λx=>vN g.toNat (n-g.toNat) (fM g.toNat x))=(m.all λx=>vN g.toNat (n-g.toNat) (fM g.toNat x)):=by rw[List.all_append,h1,zeg]
 unfold nQ vQ;rw[hs];unfold gB;rw[zab hg,ha,List.all_map,zau];simp only[Function.comp_def]
 by_cases c1:(m.all λx=>vN g.toNat (n-g.toNat) (fM g.toNat x))=false
 .rw[zac c1,zac c1,zac dC]
 rw[zab c1,zab c1]
 by_cases c2:yR (n-g.toNat) (T.map (fM g.toNat)++m.map (fM g.toNat))=false
 .rw[zac c2,zac c2,zac dC]
 rw[zab c2,zab c2,zab (λh=>h rfl),zab hg]
/-! Groups:keys as they come,with what they count and sum up. -/
section
variable {w:Wd}
theorem aav {a b:List ay} {va vb:Value} (ha:aQ w va ah 3 a) (hb:aQ w vb ah 3 b):Rk prog 40 [va,vb] w (.bool (decide (a=b))):=by
  obtain⟨A,m,rfl,⟨hm,qX⟩,hA⟩:=ha;obtain⟨B,m2,rfl,⟨Ey,arq⟩,hB⟩:=hb;have H:=Sep.aJ w;refine dF func40 rfl rfl rfl rfl ?_;refine Za6 ?_;refine Qn (Cp rfl (λk=>?_) (λk=>?_))
  . have iC: ¬a=b:=λe=>k (by rw[e])
    refine Zb1 ?_;exact⟨by rw[zas iC];rfl,H.kept⟩
  have hlen:a.length=b.length:=oM;refine Zb1 ?_;refine aR (λi:Nat=>[(0,.slice A a.length m),(1,.slice B b.length m2),(5,I i)]) (λi w'=>(i<=a.length/\a.take i=b.take i)/\Sep w noB [] w') (λi _=>a.length-i) 0 tR ⟨⟨zaq _,rfl⟩,H⟩ (λi τ _ hI=>?_);obtain⟨⟨hi,heq⟩,k⟩:=hI
  try simp only[cK,like,aS,bK]
  refine Za4 ?_;refine Qn (Cp rfl (λS=>?_) (λS=>?_))
  . have bH:i<a.length:=oM
    have Dp:i<b.length:=oM;obtain⟨x,hx⟩:=get_some bH;obtain⟨y,hy⟩:=get_some Dp;refine Zb0 ?_;refine Ds (λS _ c=>?_);refine Zb2 ?_;refine GS (Gn rfl (λ_=>Gives.jJ rfl rfl hA bH) ?_);refine GS (Gt rfl (Gives.iL rfl c hA hx) ?_);refine Zb2 ?_;refine GS (Gn rfl (λ_=>Gives.jJ rfl rfl hB Dp) ?_);refine GS (Gt rfl (Gives.iL rfl c hB hy) ?_);refine GS (Gn rfl (λ_=>Gives.ahl (enc:=ah) x y rfl rfl) ?_);refine fF S kR ?_;refine bC (Cp rfl (λS=>?_) (λS=>?_))
    . have iC: ¬a=b:=λe=>by
        subst e;rw[hx]at hy;injection hy with hy
        exact S hy
      refine Zb1 ?_;exact⟨by rw[zas iC];rfl,c.kept⟩
    have hxy:x=y:=Decidable.of_not_not S;have YC:a.take (i+1)=b.take (i+1):=by rw[zbd,zbd,hx,hy,heq,hxy]
    refine Zb1 ?_;refine Vc ((i+1:Nat):Int) ?_;refine Zb1 ?_;exact aj (i+1) tR ⟨⟨oM,YC⟩,c⟩ oM
  have Yw:a=b:=by
    have h1:=heq;rw[zax oM,zax oM]at h1;exact h1
  refine Zb1 ?_;exact⟨by rw[zbj Yw];rfl,k.kept⟩
theorem GA {l:List ay} {v:Value} (hl:aQ w v ah 3 l) (uS:l.length<=1000):aY prog 35 [v] w λv' w'=>∃x,v'=x/\True/\Turn noB (bJ 52 3 ah x l) w w':=by
 obtain⟨A,m,rfl,⟨hm,qX⟩,hA⟩:=hl;have H:=Sep.aJ w;refine dI func35 rfl rfl rfl rfl ?_;refine Zb4 ?_;have k:=Sep.nE H 52 3 ah;refine oO k At0 (hA.keep H.kept) (by unfold maxLen;simp;omega) (by simp;omega) (cells_one (λ_=>rfl) _) (h:=?_);intro v2 S k;refine Zb1 ?_;exact⟨_,rfl,trivial,by rw[zcb]at k;exact k.turn⟩
end
end Go.Proofs.YtkfpleidaoaonaaGreatDoor
namespace Go.Mw
open Go.RowKit
section
variable {P:Program} {ρ:Od->Value} {ty:Td} {w:Wd}
end
end Go.Mw
namespace Go.Proofs.YtkfpleidaoaonaaGreatDoor
open Go Go.Mw Go.Lib
set_option maxRecDepth 4000
attribute [local irreducible] FW FL FG FGn fZ gG cO gW Qfn Gives
section
variable {w:Wd}
end
end Go.Proofs.YtkfpleidaoaonaaGreatDoor
namespace Go.Proofs.YtkfpleidaoaonaaGreatDoor
open Go Go.Mw Go.Lib
set_option maxRecDepth 4000
attribute [local irreducible] FW FL FG FGn fZ gG cO gW Qfn Gives
section
variable {w:Wd}
end
end Go.Proofs.YtkfpleidaoaonaaGreatDoor
namespace Go.Mw
open Go.RowKit
section
variable {P:Program} {r:Option Nat} {n:Nat} {ops:AO} {Q:Post} {rest:LO} {σ:St} {w w' w0:Wd} {S:NP} {rs:List HP} {put:HP->List HP} {ty:Td} {pos:String} {after:Array Edge}
end
section
variable {P:Program} {r:Option Nat} {n:Nat} {ops:AO} {Q:Post} {rest:LO} {σ:St} {w w' w0:Wd} {S:NP} {rs:List HP} {put:HP->List HP} {ty:Td} {pos:String} {after:Array Edge}
theorem adJ {P:Program} {w:Wd} (t tn ty e:Td) [hs:dh P t e] {kn:IntKind} [hn:lZ P tn kn] {size bytes:Nat} [hc:Cells P e size bytes] {z:Value} [hz:Zero P e z] (JW:z.cells.size=size) (h1:0<size)
    (kq:IntKind) (k:Nat) (h0:0<k) (h63:k<=maxLen) (hbytes:k*bytes<=140737488355328):
    ∃c w',(Builtin.append_ #[t,tn] ty #[.slice none 0 0,.int kq k]).run P w=.ok (.slice (some ⟨w.heap.size,0,none⟩) k c) w'/\k<=c/\c<=maxLen/\w'.ownsRow 0 e size (.slice (some ⟨w.heap.size,0,none⟩) 0 c) 0 []/\Kept noB w w':=by
  obtain⟨i,hi,p9⟩:=zav.1 hc.size;simp only[Prod.mk.injEq]at p9;obtain⟨ap3,hby⟩:=p9
  have uf:i.zero=some z:=by
    have:=hz.run w;simp[zeroValue,typeInfo,hi]at this;cases hq:i.zero with
    | none=>simp[hq]at this
    | some u=>simp[hq]at this;rw[this]
  have hge:=grownCap_ge w k 0 e;have hcm:grownCap w k 0 e<=maxLen:=grownCap_le_maxLen w k 0 e h63;have hr:=Lib.run_append_nil_zeros (P:=P) w t tn ty e i z kq kn hs.und hn.und hi uf k h0 oM (by simp only[maxLen]at h63;omega) (by rw[hby];omega);refine⟨_,_,hr,hge,hcm,⟨sM,.inr ⟨w.heap.size,_,_,rfl,zaq _,heap_alloc_new w.drew _,zaq _,hcm,?_,sM⟩⟩,(Kept.drew w).JY (Kept.alloc _ _)⟩;simp only[Array.size_append,size_zeroCells,JW];rw[<-Nat.add_mul]
  congr 1
  omega
theorem agM {d:Nat} {x y:Od} {t tn e:Td} [hs:dh P t e] {kn:IntKind} [hn:lZ P tn kn] {size bytes:Nat} [hc:Cells P e size bytes] {z:Value} [hz:Zero P e z] {m:Nat} {kq:IntKind}
    (H:Sep w0 S rs w) (hx:evF σ x=.slice none 0 0) (hy:evF σ y=.int kq m) (h0:0<m) (JW:z.cells.size=size:=by exact rfl) (h1:0<size:=by decide)
    (h63:m<=maxLen) (hbytes:m*bytes<=140737488355328) (hd:Nat.blt d n=true:=by exact rfl)
    (h: ∀g c w',m<=c->c<=maxLen->Sep w0 S (yU e size (.slice (some ⟨g,0,none⟩) 0 c) 0 []::rs) w'->FL P r n ops Q rest (upd σ d (.slice (some ⟨g,0,none⟩) m c)) w'):
    FL P r n ops Q (⟨some d,.call {callee:=.builtin .append,args:= #[x,y],argTypes:= #[t,tn]},ty,pos,after,none⟩::rest) σ w:=by
  obtain⟨c,w',iw,q9,hcm,mR,hk⟩:=adJ (P:=P) (w:=w) (ty:=ty) t tn e JW h1 kq m h0 h63 hbytes
  have k:Sep w0 S (yU e size (.slice (some ⟨w.heap.size,0,none⟩) 0 c) 0 []::rs) w':=H.new (F':=λb=>Value.ownBlock (.slice (some ⟨w.heap.size,0,none⟩) 0 c)=some b) hk ⟨mR,λb=>Iff.rfl⟩ λb hb=>by
    injection hb with hb
    exact Nat.le_of_eq hb
  refine dG (v:=.slice (some ⟨w.heap.size,0,none⟩) m c) (w':=w') (λ_ _ _ _=>?_) hd (h _ c w' q9 hcm k);simp only[execOp,resolve,invoke,builtin,zbh,zbm,zai,zcg,zay,zcm,hx,hy,iw]
end
end Go.Mw
namespace Go.Mw
theorem Gives.Tz {P:Program} {ρ:Od->Value} {ty:Td} {w:Wd} {x:Od} {t e:Td} [h:dh P t e] {A:OA} {m c:Nat} (hx:ρ x=.slice A m c):Gives P ρ (.call {callee:=.builtin .cap,args:= #[x],argTypes:= #[t]}) ty w (.int .i64 c) w:=λ_ _ _ _=>by
 simp[execOp,resolve,invoke,builtin,hx,Builtin.cap_,run_underlying h.und,goInt]
end Go.Mw
namespace Go.Proofs.YtkfpleidaoaonaaGreatDoor
open Go Go.Mw Go.Lib
set_option maxRecDepth 4000
attribute [local irreducible] FW FL FG FGn fZ gG cO gW Qfn Gives
theorem DV {l m:List aH} {i:Nat} {a b:aH} (h:l.take i=m.take i) (ha:l[i]? =some a) (hb:m[i]? =some b):(l.take (i+1)=m.take (i+1))↔a=b:=by
 rw[zbd,zbd,ha,hb,h];simp
theorem AL {a b:aH}:(a.w=b.w/\a.row=b.row)↔a=b:=⟨λh=>aH.ext' h.2 h.1,λh=>by rw[h];exact⟨rfl,rfl⟩⟩
instance:DecidableEq aH:=λa b=>decidable_of_iff (a.w=b.w/\a.row=b.row) AL
abbrev Qq:=OA×Nat×List (Value×Int)
def am5 (x:Qq):Value:=.slice x.1 x.2.2.length x.2.1
def agN (x:Qq):LV:=[am5 x]
instance:jf agN 1:=⟨λ_=>rfl⟩
theorem NJ {l:List Qq} {i:Nat} {x:Qq} (h:l[i]? =some x):(l.take (i+1)).flatMap (·.2.2)=(l.take i).flatMap (·.2.2)++x.2.2:=by
 rw[zbd,h,zby];simp
theorem YX {l:List Qq} (i:Nat):((l.take i).flatMap (·.2.2)).length<=(l.flatMap (·.2.2)).length:=by
 conv=>rhs;rw[<-zbs i l,zby,zad]
 omega
theorem Qr {w:Wd} {r:List (Value×Int)} {l:List aH} (h:fK w r l): ∀u∈r.flatMap aG,u.oneCell'=true:=by
 intro u hu;obtain⟨x,hx,hu⟩:=zcz.1 hu;obtain⟨i,hi,e⟩:=zfx hx;have hl:=h.len;obtain⟨A,c,hA,_,_⟩:=h.2 i x l[i] (by rw[zaa hi,e]) (zaa oM);have hu:u=x.1\/u=I x.2:=by simpa[aG]using hu
 rcases hu with e | e
 .rw[e,hA];rfl
 rw[e];rfl
section
variable {w:Wd}
theorem WO {l m:List aH} {va vb:Value} (hl:eT w va l) (hm:eT w vb m):
    Rk Tryz.prog 60 [va,vb,.func (.func 61) #[] #[]] w (.bool (decide (l=m))):=by
  obtain⟨r,hr,iI⟩:=hl;obtain⟨s,hs,Rz⟩:=hm;obtain⟨A,c,rfl,⟨hc,hc'⟩,hA⟩:=hr;obtain⟨B,d,rfl,⟨hd,hd'⟩,hB⟩:=hs;have BD:=iI.len;have hsl:=Rz.len;have H:=Sep.aJ w;refine y7 Tryz.func60 rfl rfl rfl rfl ?_;refine Za6 ?_;refine Qn (Cp rfl (λk=>?_) (λk=>?_))
  . have iC: ¬l=m:=λe=>k (by rw[BD,hsl,e])
    refine Zb1 ?_;exact⟨by rw[zas iC];rfl,H.kept⟩
  have hlen:r.length=s.length:=oM;refine Zb3 ?_;refine aR (λi:Nat=>[(0,.slice A r.length c),(1,.slice B s.length d),(2,.func (.func 61) #[] #[]),(15,.slice A r.length c),(16,I r.length),(17,I i)]) (λi w'=>(i<=r.length/\l.take i=m.take i)/\Mw.Sep w noB [] w') (λi _=>r.length-i) 0 tR ⟨⟨zaq _,rfl⟩,H⟩ (λi τ _ hI=>?_);obtain⟨⟨hi,heq⟩,k⟩:=hI
  try simp only[cK,like,aS,bK]
  refine Za1 ?_;refine Qn (dW (Cp rfl (λS=>?_) (λS=>?_)))
  . have bH:i<r.length:=oM
    have Dp:i<s.length:=oM;obtain⟨o,ho⟩:=get_some (l:=l) (show i<l.length from oM);obtain⟨p,hp⟩:=get_some (l:=m) (show i<m.length from oM);obtain⟨vo,Ry,VZ⟩:=iI.get ho;obtain⟨vp,hvp,F9⟩:=Rz.get hp;have fU:=DV heq ho hp;have aj2:=VZ;have aou:=F9;obtain⟨Ao,co,rfl,_,_⟩:=VZ;obtain⟨Ap,cp,rfl,_,_⟩:=F9;refine Zb3 ?_;refine aO k (h:=λb8 _ S _=>?_);refine Am ?_;refine ak S (h:=λ_ S=>?_);refine Zb4 ?_;refine aO S (h:=λb9 _ S _=>?_);refine ak S (h:=λ_ S=>?_);refine Zb3 ?_;refine dP (fs:=[]) (cs:=[]) (vals:=[agg (aG (.slice Ao o.row.length co,o.w)),agg (aG (.slice Ap p.row.length cp,p.w))]) rfl (adD (aj2.keep S.kept) (aou.keep S.kept)) rfl rfl (λv' _ hv=>?_);obtain⟨rfl,a⟩:=hv;have b:=S.keep a;refine Vv (Gives.notP rfl) (Qn ?_);refine Cp rfl (λa=>?_) (λa=>?_)
    . have iC: ¬l=m:=λe=>a (AL.2 (fU.1 (by rw[e])))
      refine Zb1 ?_;exact⟨by rw[zas iC];rfl,b.kept⟩
    have YC:=fU.2 (AL.1 (Decidable.of_not_not a));refine Zb0 ?_;refine Vc ((i+1:Nat):Int) ?_;refine Zb1 ?_;exact aj (i+1) tR ⟨⟨oM,YC⟩,b.dA.dA⟩ oM
  have q8:l=m:=by
    rw[zax oM,zax oM]at heq;exact heq
  refine Zb1 ?_;exact⟨by rw[zbj q8];rfl,k.kept⟩
theorem TA {l m:List aH} {va vb:Value} (hl:eT w va l) (hm:eT w vb m):Rk Tryz.prog 29 [va,vb] w (.bool (decide (l=m))):=by
 have H:=Sep.aJ w;refine dF Tryz.func29 rfl rfl rfl rfl ?_;refine Zb3 ?_;refine aD H (WO (hl.keep H.kept) (hm.keep H.kept)) (h:=λ_ k _=>?_);refine Zb1 ?_;exact⟨rfl,k.kept⟩
theorem adK (n:Nat) (hn:n<=100000):aY Tryz.prog 103 [.slice none 0 0,I n] w λu w'=>∃x:Value,u=x/\True/\Turn noB (bJ 82 2 aG x []) w w':=by
 have H:=Sep.aJ w;refine dF Tryz.func103 rfl rfl rfl rfl ?_;refine Za3 ?_;refine Qn (Cp rfl (λk=>?_) (λk=>?_))
 .omega
 refine Zb2 ?_;refine Vv (Gives.Tz rfl) (Zb2 ?_);refine Vc 0 ?_;refine Vc (n:Int) ?_;refine Za3 ?_;refine Qn (Cp rfl (λk=>?_) (λk=>?_))
 .refine Zb2 ?_
  refine Vv (Gives.Tz rfl) (Vv (Gives.sliceTo (h:=0) rfl rfl oM) ?_);refine Mv ?_;refine agM H (m:=n) rfl rfl oM (h63:=by unfold maxLen;omega) (hbytes:=by omega) (h:=?_);intro g c k hgc hcm k;refine Zb2 ?_;refine Vv (Gives.sliceTo (h:=0) rfl rfl oM) (Zb3 ?_);exact⟨_,rfl,trivial,k.first.turn⟩
 refine Zb2 ?_;exact⟨_,rfl,trivial,(Sep.jM H 82 2).first.turn⟩
end
end Go.Proofs.YtkfpleidaoaonaaGreatDoor
