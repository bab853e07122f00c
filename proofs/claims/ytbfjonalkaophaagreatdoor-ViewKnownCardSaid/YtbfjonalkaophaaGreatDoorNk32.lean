/-
 The law ViewKnown;walked.
-/
import Derived.Test.YtbfjonalkaophaaGreatDoorNk31
set_option linter.all false
set_option maxRecDepth 4000
namespace Go.Proofs.Mw
open Go.Lib
attribute [local irreducible] FW FL FG FGn jX lg gD l7 Qfn ah
def knT:List (L8):=[ald,ale,alf,alg,alh,ali,alj]
def ajS: ∀x∈knT,(l9 x).2.2=0/\mQ (l9 x).1/\x.length<=1000:=λx k=>by
 have key: ∀{p:aU} {t:L8},textOf p t=true->(l9 t).2.2=0/\mQ (l9 t).1/\t.length<=1000:=λh=>by
  obtain⟨a,b,c⟩:=zn h;rw[a];exact⟨rfl,b,c⟩
 unfold knT at k;simp only[zax,zal,or_false]at k
 rcases k with rfl | rfl | rfl | rfl | rfl | rfl | rfl
 .exact key ajC
 .exact key ajD
 .exact key ajE
 .exact key ajF
 .exact key ajG
 .exact key ajH
 exact key ajI
def cV:L8:=[99]
def lK0:List aH:=[iV 1 aV 1,iV 2 [] 1,iV (-2147483648) bV 1]
def lK1:List aH:=[iV 2147483647 aV 2,iV 2 [] (-1)]
def lK2:List aH:=[iV 1 aV (-1),iV 2147483647 aV 4611686018427387904]
def lK3:List aH:=[iV 2147483647 aV 4611686018427387904]
def lK5:List aH:=[iV 3 cV (-9223372036854775808),iV 3 cV (-1)]
def qK:List (List aH):=[lK0,lK1,lK2,lK3,lK3,lK5]
def JH: ∀l∈qK,∀x∈l,dQ x:=λl h=>mh (zaz.1 (show qK.all (λl=>l.all aa7)=true from dC) l h)
def Au (v:Value) (r:LV) (q:List (List aH)) (w:Wd):Prop:=aP w v zu 1 r/\r.length=q.length/\∀(i:Nat) x l,r[i]? =some x->q[i]? =some l->dM w x l
def agz:List bF:=[⟨3,[],⟨9,false⟩,cell0⟩]
def lZ:List (List aH):=[[⟨[cell0],1⟩]]
def ajT: ∀l∈lZ,∀x∈l,dQ x:=λl h=>mh (zaz.1 (show lZ.all (λl=>l.all aa7)=true from dC) l h)
def Au.is {w:Wd} {v:Value} {r:LV} {q:List (List aH)} (h:Au v r q w):qR w v q:=⟨r,h.1,h.2.1,h.2.2⟩
def ZF (r:LV) (q:List (List aH)) (w:Wd):Prop:=r.length=q.length/\∀(i:Nat) x l,r[i]? =some x->q[i]? =some l->dM w x l
variable {w w0:Wd} {S:NP} {rs:List HP} {v:Value} {r:LV} {q:List (List aH)}
def jW {d:Type} {e:d->LV} {k E b n:Nat} [h:jl e k] {l:List d} (H:Mw.Sep w0 S (blk b (l.flatMap e) E::rs) w) (c:n=l.length) (a:n<=maxLen):Mw.Sep w0 S (aY E k e (.slice (some ⟨b,0,none⟩) n n) l::rs) w:=by
 subst c;exact Sep.nC H At0 (jh h.len l) a
def qU (H:Mw.Sep w0 S rs w):Mw.Sep w0 S (fA (ZF [] [])::rs) w:=Sep.pU H λw=>⟨rfl,λi x l h=>by simp at h⟩
def je {u:Value} {c:List (Value×Int)} {l:List aH} (H:Mw.Sep w0 S (fA (ZF r q)::nJ u c l::rs) w):Mw.Sep w0 S (fA (ZF (u::r) (l::q))::rs) w:=
 Sep.jN H λw a b=>⟨by rw[zat,zat,a.1],λi x m k h=>by
  cases i with
  | zero=>
   rw[zcx]at k h;injection k with k
   injection h with h
   subst k;subst h;exact⟨c,b⟩
  | succ j=>exact a.2 j x m (by simpa using k) Iy⟩
def jO (x:Value×Value×Int):LV:=[x.1,x.2.1,I x.2.2]
instance:jl jO 3:=⟨λ_=>rfl⟩
def p1K:aU:=⟨[],[],0⟩
def p2K:aU:=⟨[],[], -1⟩
def p3K:aU:=⟨[],[⟨aV,[⟨1,3,[]⟩]⟩], -1⟩
def p4K:aU:=⟨[],[⟨aV,[⟨2,0,[]⟩]⟩],1⟩
def psK:List aU:=[p1K,p2K,p3K,p4K]
def ail: ∀p∈psK,mQ p:=λp b=>by
 have h: ∀p∈psK,(zm p.wh&&p.cols.all λo=>zm o.steps)=true:=dC;have k:=h p b;rw[zbr]at k;exact⟨rW k.1,λo a=>rW (zaz.1 k.2 o a)⟩
def TV (r:List (Value×Value×Int)) (w:Wd):Prop:=∀(i:Nat) x p,r[i]? =some x->psK[i]? =some p->fK w (agg (jO x)) p
def NG (g:Int):fK w (agg [.slice none 0 0,.slice none 0 0,I g]) ⟨[],[],g⟩:=⟨_,_,rfl,mR _ _ _,[],mR _ _ _,qm.nil⟩
set_option maxHeartbeats 2000000 in
theorem TW (hT:gK w):Rk Tryz.prog 3 [] w (.bool true):=by
 have H:=Sep.aI w;have e: ∀wx,aS noB w wx->gK wx:=λwx h=>hT.aK h;refine Ut Tryz.func3 ?_;refine V1 ?_;refine Bs H (knT.flatMap gG) (λbl w3 H3 k2=>?_);have H3:Mw.Sep w noB (aY 9 1 gG (.slice (some ⟨bl,0,none⟩) 7 7) knT::_) w3:=Sep.nC H3 At0 (n:=7) rfl dC;refine Nz (jg 1 1 aV) (λx1 w6 _ H6 k5=>?_);refine Nz (jg 2 1 []) (λx2 w8 _ H8 k7=>?_);refine Nz (jg (-2147483648) 1 bV) (λx3 wa _ Ha k9=>?_);refine Bs Ha ([(x1,1),(x2,1),(x3,1)].flatMap aD) (λbs0 wb Hc ka=>?_);have Hc:=uN Hc;refine Nz (jg 2147483647 2 aV) (λx4 wc _ Hd kb=>?_);refine Nz (jg 2 (-1) []) (λx5 wd _ Hf kc=>?_);refine Bs Hf ([(x4,2),(x5, -1)].flatMap aD) (λbs1 we Hg kd=>?_);have Hg:=jk Hg;refine Nz (jg 1 (-1) aV) (λx6 wf _ Hh ke=>?_);refine Nz (jg 2147483647 4611686018427387904 aV) (λx7 wg _ Hi kf=>?_);refine Bs Hi ([(x6, -1),(x7,4611686018427387904)].flatMap aD) (λbs2 wi Hj kg=>?_);have Hj:=jk Hj;refine Nz (jg 2147483647 4611686018427387904 aV) (λx8 wj _ Hl kh=>?_);refine Bs Hl ([(x8,4611686018427387904)].flatMap aD) (λbs3 wk Hm ki=>?_);have Hm:=jF Hm;refine Nz (jg 2147483647 4611686018427387904 aV) (λx9 wl _ Hn kj=>?_);refine Bs Hn ([(x9,4611686018427387904)].flatMap aD) (λbs4 wm Ho kk=>?_);have Ho:=jF Ho;refine Nz (jg 3 (-9223372036854775808) cV) (λx10 wn _ Hp kl=>?_);refine Nz (jg 3 (-1) cV) (λx11 wo _ Hr km=>?_);refine Bs Hr ([(x10, -9223372036854775808),(x11, -1)].flatMap aD) (λbs5 wp Ht kn=>?_)
 have Ht:=jk Ht;obtain⟨r,T⟩: ∃r,r=[Value.slice (some ⟨bs0,0,none⟩) 3 3,.slice (some ⟨bs1,0,none⟩) 2 2,.slice (some ⟨bs2,0,none⟩) 2 2,.slice (some ⟨bs3,0,none⟩) 1 1,.slice (some ⟨bs4,0,none⟩) 1 1,.slice (some ⟨bs5,0,none⟩) 2 2]:=⟨_,rfl⟩;refine j5 Ht (xs:=[.tmp 13,.tmp 16,.tmp 19,.tmp 21,.tmp 23,.tmp 26]) (out:=r.flatMap zu) (by rw[T];exact dI.one rfl rfl (dI.one rfl rfl (dI.one rfl rfl (dI.one rfl rfl (dI.one rfl rfl (dI.one rfl rfl dI.nil)))))) rfl rfl rfl (λbq wq O ko=>?_);have K:6=r.length:=by rw[T];rfl
 have h0l:0<r.length:=by rw[<-K];decide
 have Hs:=jW (k:=1) O K dC;have N:=dz Hs At0;have L:=je (je (je (je (je (je (qU N.jq.jq.jq.jq.jq.jq))))));rw[<-T]at L;have Hu:Mw.Sep w noB [fA (Au (.slice (some ⟨bq,0,none⟩) 6 6) r qK),aY 9 1 gG (.slice (some ⟨bl,0,none⟩) 7 7) knT] wq:=Sep.firsts (l:=[_,_]) (Sep.jN L λw a b=>⟨b,a.1,a.2⟩);obtain⟨v0,hv0⟩: ∃v0,v0=Value.slice (some ⟨bs0,0,none⟩) 3 3:=⟨_,rfl⟩;have Q:r[0]? =some (Value.slice (some ⟨bs0,0,none⟩) 3 3):=by rw[T];rfl
 rw[<-hv0]at Q;obtain⟨kT,hkT⟩: ∃kT,kT=knT:=⟨_,rfl⟩;have hk7:7=kT.length:=by rw[hkT];rfl
 have amo:=ajS;rw[<-hkT]at Hu amo;refine V2 ?_;refine aM (λi:Nat=>[(1,.slice (some ⟨bl,0,none⟩) 7 7),(2,.slice (some ⟨bq,0,none⟩) 6 6),(3,I i)]) (λi w'=>i<=kT.length/\Mw.Sep w noB [fA (Au (.slice (some ⟨bq,0,none⟩) 6 6) r qK),aY 9 1 gG (.slice (some ⟨bl,0,none⟩) 7 7) kT] w') (λi _=>kT.length-i) 0 tR ⟨zai _,Hu⟩ (λi τ wr hI=>?_);obtain⟨hi,Hv⟩:=hI;refine Lp ?_;refine Cz (λIe=>?_) (λIe=>?_)
 .have A:i<kT.length:=oM
  obtain⟨x,d⟩:=aN A;obtain⟨hx1,V,hx3⟩:=amo x (zag d);refine V2 ?_;refine Vv (ah.yA (l:=kT) hk7 rfl rfl (dZ hk7 Hv At1) A) (Vv (ah.yh (i:=i) (f:=0) rfl (dZ hk7 Hv At1) d rfl) ?_);refine Nz (Er x (.inl oM) oM (e _ Hv.au)) (λxp ws _ Hw kp=>?_);rw[hx1];obtain⟨W,cw,Z,cz,rfl⟩:=rT (Sep.dh Hw At0);refine Az (λb4 wt Hx kq=>?_);refine iF Hx (us:=[.slice W (l9 x).1.wh.length cw,.slice Z (l9 x).1.cols.length cz,I (l9 x).1.group]) (h:=λwu Hy=>?_);refine Dz (λu wv Hz=>?_);refine V3 ?_;refine gu (t:=45) rfl (λSb=>?_) (λSb=>?_)
  .exact aB Sb
  refine gY u 4 Hz (h:=?_);refine V1 ?_;refine dF u 3 [(5,true),(4,false)] Hz Ap (h:=λya ww _ HA kr=>⟨sU,?_⟩);refine dS u 6 _ HA (BP (gP HA At0) (Sep.dh HA At2) V (Sep.dh HA At3).is JH (e _ HA.au)) (h:=λwy HB ks=>⟨sT,?_⟩);refine V3 ?_;refine qQ (t:=52) rfl (λSc=>?_) (λSc=>?_)
  .exact Bool.noConfusion Sc
  refine gY u 11 HB (h:=?_);refine V1 ?_;refine dF u 10 [(12,true),(11,false)] HB Ap (h:=λyb wz _ HC kt=>⟨sU,?_⟩);refine dS u 13 _ HC (TT (gP HC At0) (Sep.dh HC At3) V (Sep.dh HC At4).is JH (e _ HC.au)) (h:=λwD HD ku=>⟨sT,?_⟩);refine V3 ?_;refine qQ (t:=59) rfl (λSd=>?_) (λSd=>?_)
  .exact Bool.noConfusion Sd
  refine gY u 18 HD (h:=?_);refine V1 ?_;refine Gp u 20 rfl rfl (λ_=>(ah.yA (l:=r) (enc:=zu) K rfl rfl (bJ (Sep.dh HD At4).1) h0l)) (Gl u 21 rfl rfl (ah.Ce (i:=0) rfl (Sep.aI _) (bJ (Sep.dh HD At4).1) Q rfl) ?_);refine dF u 17 [(21,false),(20,true),(19,true),(18,false)] HD Ap (h:=λyc wE _ HE kv=>⟨(bE rfl kR (ah.Ce (i:=0) rfl (Sep.aI _) (bJ (Sep.dh HE At5).1) Q rfl) rfl (av (av (Av HE (h:=dw))))),?_⟩);refine dS u 22 _ HE (BN (gP HE At0) (Sep.dh HE At4) V ((Sep.dh HE At5).2.2 0 v0 lK0 Q rfl) (JH lK0 dC) (e _ HE.au)) (h:=λwF HF kw=>⟨sT,?_⟩);refine V3 ?_;refine qQ (t:=68) rfl (λSe=>?_) (λSe=>?_)
  .exact Bool.noConfusion Se
  refine gY u 27 HF (h:=?_);refine V1 ?_;refine Gp u 29 rfl rfl (λ_=>(ah.yA (l:=r) (enc:=zu) K rfl rfl (bJ (Sep.dh HF At5).1) h0l)) (Gl u 30 rfl rfl (ah.Ce (i:=0) rfl (Sep.aI _) (bJ (Sep.dh HF At5).1) Q rfl) ?_);refine dF u 26 [(30,false),(29,true),(28,true),(27,false)] HF Ap (h:=λyd wG _ HG kx=>⟨(bE rfl kR (ah.Ce (i:=0) rfl (Sep.aI _) (bJ (Sep.dh HG At6).1) Q rfl) rfl (av (av (Av HG (h:=dw))))),?_⟩);refine dS u 31 _ HG (TU (gP HG At0) (Sep.dh HG At5) V ((Sep.dh HG At6).2.2 0 v0 lK0 Q rfl) (JH lK0 dC) (e _ HG.au)) (h:=λwH HH ky=>⟨sT,?_⟩);refine O2 ?_;refine fZ u kR ?_;refine ig (Cd rfl (λIf=>?_) (λIf=>?_))
  .exact Bool.noConfusion If
  refine V3 ?_;exact ak (i+1) tR ⟨oM,Sep.firsts (l:=[_,_]) HH.yF.yF⟩ oM
 refine V0 ?_;refine Vb (jO (.slice none 0 0,.slice none 0 0,0)) ?_;refine Vb (jO (.slice none 0 0,.slice none 0 0, -1)) ?_;refine Vb (aQ ⟨1,3,[]⟩) ?_;refine Bs Hv ([(⟨1,3,[]⟩:bH)].flatMap aQ) (λb3 wI M kz=>?_);have HI:=jW (k:=3) M (n:=1) rfl dC;refine Vb (dV (aV,.slice (some ⟨b3,0,none⟩) 1 1)) ?_;refine Bs HI ([(aV,Value.slice (some ⟨b3,0,none⟩) 1 1)].flatMap dV) (λb5 wJ M kA=>?_);have G:=jW (k:=2) M (n:=1) rfl dC;have J:=sK (n:=aV) (vC G).aR;have Hb3:=Fz (vw:=.slice none 0 0) (s:=[]) (g:= -1) (cols:=[⟨aV,[⟨1,3,[]⟩]⟩]) (dz (Sep.iX J.aJ 41 3 aQ) At0);have HJ:=Hb3;refine Vb (jO (.slice none 0 0,.slice (some ⟨b5,0,none⟩) 1 1, -1)) ?_;refine Vb (aQ ⟨2,0,[]⟩) ?_;refine Bs HJ ([(⟨2,0,[]⟩:bH)].flatMap aQ) (λb8 wK M kB=>?_);have HK:=jW (k:=3) M (n:=1) rfl dC;refine Vb (dV (aV,.slice (some ⟨b8,0,none⟩) 1 1)) ?_;refine Bs HK ([(aV,Value.slice (some ⟨b8,0,none⟩) 1 1)].flatMap dV) (λb9 wL M kC=>?_);have G:=jW (k:=2) M (n:=1) rfl dC;have J:=sK (n:=aV) (vC G).aR;have Hb3:=Fz (vw:=.slice none 0 0) (s:=[]) (g:=1) (cols:=[⟨aV,[⟨2,0,[]⟩]⟩]) (dz (Sep.iX J.aJ 41 3 aQ) At0);have HL:=Hb3;refine Vb (jO (.slice none 0 0,.slice (some ⟨b9,0,none⟩) 1 1,1)) ?_;obtain⟨y,hpK⟩: ∃y:List (Value×Value×Int),y=[(.slice none 0 0,.slice none 0 0,0),(.slice none 0 0,.slice none 0 0, -1),(.slice none 0 0,.slice (some ⟨b5,0,none⟩) 1 1, -1),(.slice none 0 0,.slice (some ⟨b9,0,none⟩) 1 1,1)]:=⟨_,rfl⟩
 refine j5 HL (xs:=[.tmp 77,.tmp 78,.tmp 83,.tmp 88]) (out:=y.flatMap jO) (by rw[hpK];exact dI.many rfl rfl (dI.many rfl rfl (dI.many rfl rfl (dI.many rfl rfl dI.nil)))) rfl rfl rfl (λb7 wM M kD=>?_);have c:4=y.length:=by rw[hpK];rfl
 have G:=jW (k:=3) M c dC
 have J:=Sep.jN (Z:=TV y) G.aR.aR λw a b i x p d m=>by
  rw[hpK]at d
  match i,d,m with
  | 0,d,m=>injection d with d;injection m with m;subst d;subst m;exact NG 0
  | 1,d,m=>injection d with d;injection m with m;subst d;subst m;exact NG (-1)
  | 2,d,m=>injection d with d;injection m with m;subst d;subst m;first | exact a | exact b
  | 3,d,m=>injection d with d;injection m with m;subst d;subst m;first | exact a | exact b
  | (j+4),d,m=>simp at d
 have HM:Mw.Sep w noB [fA (TV y),aY 32 3 jO (.slice (some ⟨b7,0,none⟩) 4 4) y,fA (Au (.slice (some ⟨bq,0,none⟩) 6 6) r qK)] wM:=Sep.firsts (l:=[_,_,_]) J;refine V2 ?_;refine aM (λi:Nat=>[(2,.slice (some ⟨bq,0,none⟩) 6 6),(7,.slice (some ⟨b7,0,none⟩) 4 4),(8,I i)]) (λi w'=>i<=y.length/\Mw.Sep w noB [fA (TV y),aY 32 3 jO (.slice (some ⟨b7,0,none⟩) 4 4) y,fA (Au (.slice (some ⟨bq,0,none⟩) 6 6) r qK)] w') (λi _=>y.length-i) 0 tR ⟨zai _,HM⟩ (λi τ wN hI=>?_);obtain⟨hi,HN⟩:=hI;refine Lp ?_;refine Cz (λIg=>?_) (λIg=>?_)
 .have A:i<y.length:=oM
  obtain⟨x,d⟩:=aN A;obtain⟨px,R⟩:=aN (show i<psK.length by show i<4;omega);have hpf:=ail px (zag R);refine Dz (λS wO HO=>?_);refine F7 (List.replicate 32 true++[false,false,false]) [(26,false),(25,true),(24,true),(23,true)] (λz:Nat×Nat=>[(2,.slice (some ⟨bq,0,none⟩) 6 6),(7,.slice (some ⟨b7,0,none⟩) 4 4),(8,I i),(115,.bool false),(118,.slice (some ⟨z.1,0,none⟩) 1 1),(122,agg (jO x)),(127,.slice (some ⟨z.2,0,none⟩) 1 1)]) (λz w'=>Mw.Sep w noB [fA (λw=>qR w (.slice (some ⟨z.2,0,none⟩) 1 1) lZ),Eo (.slice (some ⟨z.1,0,none⟩) 1 1) aL 7 agz,fA (TV y),aY 32 3 jO (.slice (some ⟨b7,0,none⟩) 4 4) y,fA (Au (.slice (some ⟨bq,0,none⟩) 6 6) r qK)] w') ?_ ?_
  .rintro⟨bC,F⟩ τ wP HQ
   dsimp only at HQ ⊢;refine dS S 32 _ HQ (BP (Sep.dh HQ At1) ((Sep.dh HQ At2) i x px d R) hpf (Sep.dh HQ At0) ajT (e _ HQ.au)) (h:=λwQ HR kE=>⟨sT,?_⟩);refine O2 ?_;refine fZ S kR ?_;refine ig (Cd rfl (λIh=>?_) (λIh=>?_))
   .exact Bool.noConfusion Ih
   refine V3 ?_;exact ak (i+1) tR ⟨oM,Sep.firsts (l:=[_,_,_]) HR.eZ.eZ.eZ⟩ oM
  intro P;refine Gm S 1 ?_;refine V1 ?_;refine Gp S 3 rfl rfl (λ_=>(ah.yA (l:=y) (enc:=jO) c rfl rfl (dZ c HO At1) A)) (Gl S 4 rfl rfl (ah.iK rfl (dZ c HO At1) d) ?_);refine V1 ?_;refine dF S 0 [(5,true),(4,false),(3,true),(2,true),(1,true)] HO Ap (h:=λya wR _ HS kF=>⟨av ((bE rfl kR (ah.iK rfl (dZ c HS At2) d) rfl (av (av (av (dw)))))),?_⟩);refine dS S 6 _ HS (BP (gP HS At0) ((Sep.dh HS At1) i x px d R) hpf (Sep.dh HS At3).is JH (e _ HS.au)) (h:=λwS v kG=>⟨sT,?_⟩);refine V2 ?_;refine qQ (t:=104) rfl (λSg=>?_) (λSg=>?_)
  .exact Bool.noConfusion Sg
  refine V2 ?_;refine Gp S 11 rfl rfl (λ_=>(ah.yA (l:=y) (enc:=jO) c rfl rfl (dZ c v At2) A)) (Gl S 12 rfl rfl (ah.iK rfl (dZ c v At2) d) ?_);refine V1 ?_;refine Gp S 14 rfl rfl (λ_=>(ah.yA (l:=r) (enc:=zu) K rfl rfl (bJ (Sep.dh v At3).1) h0l)) (Gl S 15 rfl rfl (ah.Ce (i:=0) rfl (Sep.aI _) (bJ (Sep.dh v At3).1) Q rfl) ?_);refine dS S 16 _ v (BN (cols:=[]) (mR _ _ _) ((Sep.dh v At1) i x px d R) hpf ((Sep.dh v At3).2.2 0 v0 lK0 Q rfl) (JH lK0 dC) (e _ v.au)) (h:=λwT HU kH=>⟨sT,?_⟩);refine V3 ?_;refine qQ (t:=115) rfl (λSh=>?_) (λSh=>?_)
  .exact Bool.noConfusion Sh
  refine Gb S 20 (aG ⟨9,false⟩) ?_;refine Gp S 21 rfl rfl (λ_=>(ah.build (out:=aL ⟨3,[],⟨9,false⟩,cell0⟩) (bQ.one rfl rfl rfl sM rfl (bQ.many rfl rfl (zbd rfl) rfl bQ.nil)))) (Gm S 23 ?_);refine V1 ?_;refine Gp S 25 rfl rfl (λ_=>(ah.yA (l:=y) (enc:=jO) c rfl rfl (dZ c HU At2) A)) (Gl S 26 rfl rfl (ah.iK rfl (dZ c HU At2) d) ?_);refine Gb S 27 (aj cell0) ?_;refine jw S (e1:=22) (e2:=28) kR ?_ ?_
  .refine dX S 22 [(27,true),(26,false),(25,true),(24,true),(23,true)] HU (xs:=[.tmp 117]) (out:=agz.flatMap aL) (dI.many rfl rfl dI.nil) rfl rfl rfl (h:=λbC wU HV=>?_)
   have HV:=dz (jW (k:=7) HV (n:=1) rfl dC) At0;refine⟨av ((bE rfl kR (ah.iK rfl (dZ c HV kL) d) rfl (av (av (av (dw)))))),?_⟩;refine Gz S 28 [(26,false),(25,true),(24,true),(23,true)] HV ([cell0].flatMap aj) (h:=λbR wV HW=>?_);have HW:=jW (k:=3) HW (n:=1) rfl dC;refine⟨(bE rfl kR (ah.iK rfl (dZ c HW kL) d) rfl (av (av (av (dw))))),?_⟩;refine Gb S 29 (aD (.slice (some ⟨bR,0,none⟩) 1 1,1)) ?_;refine Gz S 30 [(26,false),(25,true),(24,true),(23,true)] HW ([(Value.slice (some ⟨bR,0,none⟩) 1 1,(1:Int))].flatMap aD) (h:=λbI wW HX=>?_)
   (have HX:=jF HX)
   refine⟨(bE rfl kR (ah.iK rfl (dZ c HX kL) d) rfl (av (av (av (dw))))),?_⟩;refine Gz S 31 [(26,false),(25,true),(24,true),(23,true)] HX ([Value.slice (some ⟨bI,0,none⟩) 1 1].flatMap zu) (h:=λF wX O=>?_);have N:=dz (jW (k:=1) O (n:=1) rfl dC) At0
   (have L:=je (qU N.aJ))
   have HY:=Sep.jN (Z:=λw=>qR w (.slice (some ⟨F,0,none⟩) 1 1) lZ) L λw a b=>⟨_,b,a.1,a.2⟩;refine⟨(bE rfl kR (ah.iK rfl (dZ c HY kL) d) rfl (av (av (av (dw))))),?_⟩;exact P (bC,F) _ _ tR (Sep.firsts (l:=[_,_,_,_,_]) HY.iy.iy.iy.eZ.eZ) rfl
  refine dX S 28 [(26,false),(25,true),(24,true),(23,true),(21,true),(20,true)] HU (xs:=[.tmp 123]) (out:=[cell0].flatMap aj) (dI.many rfl rfl dI.nil) rfl rfl rfl (h:=λbR wY HZ=>?_);have HZ:=jW (k:=3) HZ (n:=1) rfl dC;refine⟨(bE rfl kR (ah.iK rfl (dZ c HZ kL) d) rfl (av (av (av (av (av (dw))))))),?_⟩;refine Gb S 29 (aD (.slice (some ⟨bR,0,none⟩) 1 1,1)) ?_;refine jw S (e1:=22) (e2:=30) kR ?_ ?_
  .refine dX S 22 [(29,true),(26,false),(25,true),(24,true),(23,true)] HZ (xs:=[.tmp 117]) (out:=agz.flatMap aL) (dI.many rfl rfl dI.nil) rfl rfl rfl (h:=λbC wZ H_=>?_)
   have H_:=dz (jW (k:=7) H_ (n:=1) rfl dC) At0;refine⟨av ((bE rfl kR (ah.iK rfl (dZ c H_ kL) d) rfl (av (av (av (dw)))))),?_⟩;refine Gz S 30 [(26,false),(25,true),(24,true),(23,true)] H_ ([(Value.slice (some ⟨bR,0,none⟩) 1 1,(1:Int))].flatMap aD) (h:=λbI w_ C=>?_)
   (have C:=jF C.aR.aJ)
   refine⟨(bE rfl kR (ah.iK rfl (dZ c C kL) d) rfl (av (av (av (dw))))),?_⟩;refine Gz S 31 [(26,false),(25,true),(24,true),(23,true)] C ([Value.slice (some ⟨bI,0,none⟩) 1 1].flatMap zu) (h:=λF w203 O=>?_);have N:=dz (jW (k:=1) O (n:=1) rfl dC) At0
   (have L:=je (qU N.aJ))
   have X:=Sep.jN (Z:=λw=>qR w (.slice (some ⟨F,0,none⟩) 1 1) lZ) L λw a b=>⟨_,b,a.1,a.2⟩;refine⟨(bE rfl kR (ah.iK rfl (dZ c X kL) d) rfl (av (av (av (dw))))),?_⟩;exact P (bC,F) _ _ tR (Sep.firsts (l:=[_,_,_,_,_]) X.iy.iy.iy.eZ.eZ) rfl
  refine dX S 30 [(26,false),(25,true),(24,true),(23,true),(21,true),(20,true)] HZ (xs:=[.tmp 125]) (out:=[(Value.slice (some ⟨bR,0,none⟩) 1 1,(1:Int))].flatMap aD) (dI.many rfl rfl dI.nil) rfl rfl rfl (h:=λbI w206 o=>?_)
  (have o:=jF o)
  refine⟨(bE rfl kR (ah.iK rfl (dZ c o kL) d) rfl (av (av (av (av (av (dw))))))),?_⟩;refine jw S (e1:=22) (e2:=31) kR ?_ ?_
  .refine dX S 22 [(26,false),(25,true),(24,true),(23,true)] o (xs:=[.tmp 117]) (out:=agz.flatMap aL) (dI.many rfl rfl dI.nil) rfl rfl rfl (h:=λbC w208 D=>?_)
   have D:=dz (jW (k:=7) D (n:=1) rfl dC) At0;refine⟨(bE rfl kR (ah.iK rfl (dZ c D kL) d) rfl (av (av (av (dw))))),?_⟩;refine Gz S 31 [(26,false),(25,true),(24,true),(23,true)] D ([Value.slice (some ⟨bI,0,none⟩) 1 1].flatMap zu) (h:=λF w210 O=>?_);have N:=dz (jW (k:=1) O (n:=1) rfl dC) At0
   (have L:=je (qU N.aR))
   have Y:=Sep.jN (Z:=λw=>qR w (.slice (some ⟨F,0,none⟩) 1 1) lZ) L λw a b=>⟨_,b,a.1,a.2⟩;refine⟨(bE rfl kR (ah.iK rfl (dZ c Y kL) d) rfl (av (av (av (dw))))),?_⟩;exact P (bC,F) _ _ tR (Sep.firsts (l:=[_,_,_,_,_]) Y.iy.iy.iy.eZ.eZ) rfl
  refine dX S 31 [(26,false),(25,true),(24,true),(23,true),(21,true),(20,true)] o (xs:=[.tmp 126]) (out:=[Value.slice (some ⟨bI,0,none⟩) 1 1].flatMap zu) (dI.one rfl rfl dI.nil) rfl rfl rfl (h:=λF w213 O=>?_);have N:=dz (jW (k:=1) O (n:=1) rfl dC) At0
  (have L:=je (qU N.aJ))
  have q:=Sep.jN (Z:=λw=>qR w (.slice (some ⟨F,0,none⟩) 1 1) lZ) L λw a b=>⟨_,b,a.1,a.2⟩;refine⟨(bE rfl kR (ah.iK rfl (dZ c q kL) d) rfl (av (av (av (av (av (dw))))))),?_⟩;refine Gz S 22 [(26,false),(25,true),(24,true),(23,true)] q (agz.flatMap aL) (h:=λbC w215 E=>?_);have E:=dz (jW (k:=7) E (n:=1) rfl dC) At0;refine⟨(bE rfl kR (ah.iK rfl (dZ c E kL) d) rfl (av (av (av (dw))))),?_⟩;exact P (bC,F) _ _ tR (Sep.firsts (l:=[_,_,_,_,_]) E.iy.iy.iy.bB.eZ) rfl
 refine Kz (nY (e _ HN.au)) (λw219 H219 kI=>?_);refine V2 ?_;exact⟨rfl,H219.au⟩
end Go.Proofs.Mw
