/-
 A range over a map;the program's escapes in literals,walked.
-/
import Derived.Test.YtbfjonalkaophaaGreatDoorNk14
set_option linter.all false
set_option maxRecDepth 4000
namespace Go.Proofs.Mw
variable {b bm clock d:Nat} {x:Od} {es:Array MapEntry}
open Go.RowKit
section
variable {P:Program} {r:Option Nat} {n:Nat} {ops:AO} {Q:Post} {rest:LO} {σ:St} {w w0:Wd} {S:NP} {rs:List HP} {put:HP->List HP} {ty:Td} {pos:String} {after:Array Edge}
def abO {T k e:Td} [g:IsMap P T k e] (H:Sep w0 S rs w) (c:w.heap[bm]? =some (.map es clock)) (i:evF σ x=.map (some bm):=by exact rfl) (f:Nat.blt d n=true:=by exact rfl)
    (h: ∀b a,Sep w0 S (obj b (.mapIter (some bm) clock #[] clock)::rs) a->FL P r n ops Q rest (upd σ d (.pointer (some ⟨b,0,none⟩))) a):FL P r n ops Q (⟨some d,.range T x,ty,pos,after,none⟩::rest) σ w:=
  eu (λ_ _ _ _=>by
    have:=run_range_map (P:=P) w T k e bm es clock g.und c;simp only[execOp,i,zbj,this,zar,zbl]) f (h _ _ (H.alloc _))
def aeG {since D:Nat} {C:Array Nat} (H:Sep w0 S rs w) (a:At rs (obj b (.mapIter (some bm) since C D)) put) (y:w.heap[bm]? =some (.map es clock)) (c: ∀x∈es.toList,x.born<since) (o:since<=D)
    (h1: ∀k,k∈(leftOf es C).toList->∀w',Sep w0 S (put (obj b (.mapIter (some bm) since (C.push k.born) clock))) w'->FL P r n ops Q rest (upd σ d (.tuple #[.bool true,k.key,k.val])) w')
    (h2:(leftOf es C).size=0->FL P r n ops Q rest (upd σ d (.tuple #[.bool false])) w) (t:evF σ x=.pointer (some ⟨b,0,none⟩):=by exact rfl) (s:Nat.blt d n=true:=by exact rfl):
    FL P r n ops Q (⟨some d,.next x false,ty,pos,after,none⟩::rest) σ w:=by
  have z:=H.obj a
  rcases run_next_at (P:=P) w ty b bm since D C es clock z y c o with⟨v,h⟩ | ⟨k,f,u,p,h⟩
  . exact eu (λ_ _ _ _=>by simp only[execOp,t,zbj,h,zar,zbl]) s (h2 v)
  have g:aS noB w u:=by
    rcases p with rfl | rfl
    . exact aS.refl _ _
    exact aS.drew w
  have q:=H.aK g;have i:=lq (q.obj a);refine eu (w':=Go.ChangeMaps.setBlock u b (.mapIter (some bm) since (C.push k.born) clock)) (λ_ _ _ _=>by simp only[execOp,t,zbj,h,zar,zbl]) s (h1 k f _ (q.setObj a ⟨rfl,rfl,rfl,by simp[Go.ChangeMaps.setBlock],λj A m=>?_⟩ (by simp[Go.ChangeMaps.setBlock,i])));simp only[Go.ChangeMaps.setBlock,zbz];rw[zab (λe=>m e.symm)]
def ah.ajo {f:Od->Value} {since:Nat} {s:Array Nat} {e:MapEntry} (d:f x=.pointer (some ⟨b,0,none⟩))
    (c:w.heap[b]? =some (.mapIter (some bm) since (s.push e.born) clock)) (h:w.heap[bm]? =some (.map es clock)) (k:e∈es.toList) (a:(es.toList.map (·.born)).Nodup):ah P f (.entry x) ty w (.tuple #[e.key,e.val]) w:=λ_ _ _ _=>by
  have:=run_entry_at (P:=P) w b bm since s es clock e c h k a;simp only[execOp,d,zbj,this,zar,zbl]
end
variable {c:UInt8} {F:NP}
open Go.Lib
section
attribute [local irreducible] FW FL FG FGn jX lg gD l7 Qfn ah
def J8 (c:UInt8):Option UInt8:=if c=34 then some 34 else if c=92 then some 92 else if c=98 then some 8 else if c=102 then some 12 else if c=110 then some 10 else if c=114 then some 13 else if c=116 then some 9 else none
def U9: ∀x∈iM.toList,x.born<7:=by
 intro x h;simp only[iM,zax,zal,or_false]at h
 rcases h with rfl | rfl | rfl | rfl | rfl | rfl | rfl<;>exact dC
def Fg:(iM.toList.map (·.born)).Nodup:=by
 show [0,1,2,3,4,5,6].Nodup
 decide
def Yh {x:MapEntry} (a:x∈iM.toList): ∃k v:UInt8,x.key=.int .i32 (k.toNat:Int)/\x.val=B v/\k.toNat<128/\∀c:UInt8,c=v->J8 c=some k:=by
 simp only[iM,zax,zal,or_false]at a
 rcases a with rfl | rfl | rfl | rfl | rfl | rfl | rfl
 .exact⟨34,34,rfl,rfl,dC,λc h=>by subst h;rfl⟩
 .exact⟨92,92,rfl,rfl,dC,λc h=>by subst h;rfl⟩
 .exact⟨8,98,rfl,rfl,dC,λc h=>by subst h;rfl⟩
 .exact⟨12,102,rfl,rfl,dC,λc h=>by subst h;rfl⟩
 .exact⟨10,110,rfl,rfl,dC,λc h=>by subst h;rfl⟩
 .exact⟨13,114,rfl,rfl,dC,λc h=>by subst h;rfl⟩
 exact⟨9,116,rfl,rfl,dC,λc h=>by subst h;rfl⟩
def abP (h: ∀x∈iM.toList,x.val≠B c):J8 c=none:=by
 have g: ∀(k:Int) (v:UInt8) (b:Nat),zO k (v.toNat:Int) b∈iM.toList->c≠v:=λk v b a e=>h _ a (by rw[e];rfl);unfold J8;rw[zab (g 34 34 0 I8),zab (g 92 92 1 I8),zab (g 8 98 2 I8),zab (g 12 102 3 I8),zab (g 10 110 4 I8),zab (g 13 114 5 I8),zab (g 9 116 6 I8)]
def ak1 {a b:UInt8} (h:B a=B b):a=b:=by
 injection h with _ h
 exact UInt8.toNat_inj.1 oM
def abQ (l:L8) (n:Nat) (g:Nat×Nat×Int):L8×Nat×Int:=(if g.2.2≠0 then []else KU (65536+1024*((n:Int)-55296)+g.1-56320),g.2.1,g.2.2)
def Va (l:L8) (n:Nat) (a:Nat×Int):L8×Nat×Int:=abQ l n (oC l (lC l a.1 a.2 117).1 (lC l a.1 a.2 117).2 true)
def Yi (l:L8) (h:Nat×Nat×Int):L8×Nat×Int:=
 if 55296<=h.1/\h.1<56320 then Va l h.1 (lC l h.2.1 h.2.2 92)else(if h.2.2≠0 then []else KU (h.1:Int),h.2.1,h.2.2)
def Pv (l:L8) (t:UInt8×Nat×Int):L8×Nat×Int:=
 if t.1=47 then([47],t.2.1,t.2.2)
 else match J8 t.1 with
  | some k=>([k],t.2.1,t.2.2)
  | none=>Yi l (oC l t.2.1 (if t.1=117 then t.2.2 else jB t.2.2 41) false)
def Bb (l:L8) (at_:Nat) (e:Int):L8×Nat×Int:=Pv l (eB l at_ e)
def aax (l:L8) (at_:Nat) (e:Int) (s:Bool):(oC l at_ e s).1<65536:=by
 have f:=u6 l at_ e;have g:=u6 l (fG l at_ e).2.1 (if s=true/\(fG l at_ e).1≠13 then jB (fG l at_ e).2.2 41 else(fG l at_ e).2.2);unfold oC;dsimp only;have h: ∀a b,(fG l a b).1<16:=λa b=>u6 l a b
 generalize i:fG l at_ e=d0 at *
 have k:=h d0.2.1 (if s=true/\d0.1≠13 then jB d0.2.2 41 else d0.2.2)
 generalize fG l d0.2.1 (if s=true/\d0.1≠13 then jB d0.2.2 41 else d0.2.2)=d1 at *
 have c:=h d1.2.1 (if s≠decide (220<=16*d0.1+d1.1/\16*d0.1+d1.1<=223)then jB d1.2.2 41 else d1.2.2)
 generalize fG l d1.2.1 (if s≠decide (220<=16*d0.1+d1.1/\16*d0.1+d1.1<=223)then jB d1.2.2 41 else d1.2.2)=d2 at *
 have d:=h d2.2.1 d2.2.2
 generalize fG l d2.2.1 d2.2.2=d3 at *
 omega
section
variable {w:Wd} {l:L8}
theorem Yj {b at_:Nat} {e:Int} (hp:(tK b l at_ e).ok F w) (hl:l.length<=1000000) (ha:at_<=l.length):aX Tryz.prog 277 [aC b] w λr Z=>r=str (Bb l at_ e).1/\cO F (tK b l (Bb l at_ e).2.1 (Bb l at_ e).2.2) w Z:=by
 have H:=Sep.dA hp;obtain⟨Y,ay⟩: ∃Y,Y=Bb l at_ e:=⟨_,rfl⟩;rw[<-ay];unfold Bb Pv Yi Va abQ at ay;have T:=take_at (e:=e) ha;obtain⟨t,ht⟩: ∃t,t=eB l at_ e:=⟨_,rfl⟩;rw[<-ht]at T ay;have htl:=t.1.toNat_lt;refine dL Tryz.func277 ?_;refine V2 ?_;obtain⟨P,j,C,f⟩:=H.bG At0;refine aO (LZ (l:=l) j hl ha) rfl rfl (λn w4 v=>?_);obtain⟨rfl,i,A,E,G⟩:=v;have H4:=f _ A _ i E G;rw[<-ht];rw[<-ht]at H4;refine Cz (λJ=>?_) (λJ=>?_)
 .have h47:t.1=47:=UInt8.toNat_inj.1 (by have h:=J;show t.1.toNat=47;omega)
  rw[zac h47]at ay;refine V1 ?_;exact⟨by rw[ay];rfl,by rw[ay];exact H4.bf⟩
 rw[zab (λh=>by rw[h]at J;exact J rfl)]at ay;refine V0 ?_;refine aO (UZ) rfl rfl (λn wa v=>?_);obtain⟨m,rfl,_,i,A,hq2,anB⟩:=v;have Ha:=H4.new i hq2 (λb hb=>(anB b hb).resolve_left id);refine abO Ha (Ha.obj At0) (h:=λk wb Hb=>?_);refine V0 ?_;refine aM (λ_:Array Nat×Nat=>[(0,aC b),(3,B t.1),(12,.pointer (some ⟨k,0,none⟩))]) (λx Z=>(7<=x.2/\∀y∈iM.toList,x.1.contains y.born=true->y.val≠B t.1)/\Sep w F [obj k (.mapIter (some m) 7 x.1 x.2),obj m (.map iM 7),tK b l t.2.1 t.2.2] Z) (λx _=>(leftOf iM x.1).size) (#[],7) tR ⟨⟨zbk _,λy _ hy=>by simp at hy⟩,Hb⟩ (λx τ wc hI=>?_);obtain⟨u,c0⟩:=x;obtain⟨⟨hc0,p⟩,S⟩:=hI;dsimp only at hc0 p S;refine Lp ?_;refine Sr (aeG S At0 (S.obj At1) U9 hc0 (h1:=λen q wd Hd=>?_) (h2:=λq=>?_))
 .obtain⟨D,hns⟩:=mem_left q
  obtain⟨kk,vv,hke,hva,aoN,hbk⟩:=Yh D;have anD:=left_shrinks iM u en q;refine V1 ?_;refine Vv (ah.ajo rfl (Hd.obj At0) (Hd.obj At1) D Fg) ?_;rw[hke,hva];refine Cz (λIe=>?_) (λIe=>?_)
  .have V:vv=t.1:=UInt8.toNat_inj.1 (by have h:=Ie;omega)
   rw[hbk t.1 V.symm]at ay;dsimp only at ay;refine V1 ?_;refine Vv (ah.af6 rfl) ?_;rw[RN kk.toNat oM oM,show encodeRune (kk.toNat:Int)=[kk]from by unfold encodeRune;rw[encodeRuneZ_one oM oM];simp];refine V1 ?_;exact⟨by rw[ay];rfl,by rw[ay];exact(Hd.aR).firsts (l:=[_]).bf⟩
  have V:vv≠t.1:=λh=>Ie (by rw[h]);refine V0 ?_;exact ak (u.push en.born,7) tR ⟨⟨zbk _,λy hy X=>by
  rw[contains_push]at X;cases hsy:u.contains y.born with
  | true=>exact p y hy hsy
  | false=>
   rw[hsy,Bool.false_or,beq_iff_eq]at X;have:=born_inj Fg hy D X;rw[this,hva];exact λh=>V (ak1 h)⟩,Hd⟩ anD
 have akj:=all_seen iM u q;have hbn:=abP (λx hx=>p x hx (akj x hx));rw[hbn]at ay;dsimp only at ay;obtain⟨K,L⟩: ∃K,K=if t.1=117 then t.2.2 else jB t.2.2 41:=⟨_,rfl⟩
 rw[<-L]at ay;have hhl:=aax l t.2.1 K false;have O:=RQ (e:=K) (s:=false) T;obtain⟨h,hh⟩: ∃h,h=oC l t.2.1 K false:=⟨_,rfl⟩;rw[<-hh]at ay hhl O;refine Vx ?_;refine Qn (zG (DF rfl ?_));refine K3 (Cn (xD (Co (ig (dU (λ_:Unit=>[(0,aC b)]) (λ_ Z=>Sep w F [tK b l t.2.1 K] Z) ?_ ?_)))))
 .refine Cz (λIf=>?_) (λIf=>?_)
  .have M:jB t.2.2 41=K:=by rw[L,zab (λh=>If IY)]
   refine V1 ?_;obtain⟨P,j,C,f⟩:=S.bG At2;refine aO (oU (l:=l) 41 j) rfl rfl (λn we v=>?_);obtain⟨rfl,i,A,E,G⟩:=v;have He:=f _ A _ i E G;refine V0 ?_;rw[M]at He;exact aA () tR ((He.aR).firsts (l:=[_]))
  have M:t.2.2=K:=by rw[L,zac (UInt8.toNat_inj.1 (by have h:=If;show t.1.toNat=117;omega))]
  refine V0 ?_;rw[M]at S;exact aA () tR ((S.aR).firsts (l:=[_]))
 intro _ τ wf Hf;refine Lp ?_;refine V1 ?_;obtain⟨P,j,C,f⟩:=Hf.bG At0;refine aO (U5 (l:=l) false j hl T) rfl rfl (λn wg v=>?_);obtain⟨rfl,i,A,E,G⟩:=v;have Hg:=f _ A _ i E G;rw[<-hh];rw[<-hh]at Hg;refine Am ?_;refine Qn (dU (λz:Int×Nat×Int=>[(0,aC b),(6,I32 z.1)]) (λz Z=>Y=(if z.2.2≠0 then []else KU z.1,z.2.1,z.2.2)/\Sep w F [tK b l z.2.1 z.2.2] Z) ?_ ?_)
 .refine Sz (λSa=>?_) (λSa=>?_)
  .have hge:=Sa
   refine Cz (λIg=>?_) (λIg=>?_)
   .have akk:55296<=h.1/\h.1<56320:=by have h2:=Ig;omega
    rw[zac akk]at ay;have W:=Fe (c:=92) (e:=h.2.2) O;obtain⟨a,Q⟩: ∃a,a=lC l h.2.1 h.2.2 92:=⟨_,rfl⟩;rw[<-Q]at ay W;have hwb:=Fe (c:=117) (e:=a.2) W;obtain⟨d,hdd⟩: ∃d,d=lC l a.1 a.2 117:=⟨_,rfl⟩;rw[<-hdd]at ay hwb;have hgl:=aax l d.1 d.2 true;obtain⟨g,N⟩: ∃g,g=oC l d.1 d.2 true:=⟨_,rfl⟩;rw[<-N]at ay hgl;refine V1 ?_;obtain⟨P,j,C,f⟩:=Hg.bG At0;refine aO (L6 (l:=l) 92 j hl O) rfl rfl (λn wh v=>?_);obtain⟨rfl,i,A,E,G⟩:=v;have Hh:=f _ A _ i E G;rw[<-Q]at Hh;refine V1 ?_;obtain⟨P,j,C,f⟩:=Hh.bG At0;refine aO (L6 (l:=l) 117 j hl W) rfl rfl (λn wi v=>?_);obtain⟨rfl,i,A,E,G⟩:=v;have Hi:=f _ A _ i E G;rw[<-hdd]at Hi;refine V1 ?_;refine Vv (ah.akc (c:=(h.1:Int)-55296) rfl rfl Ip) ?_;refine Vv (ah.aeA (c:=1024*((h.1:Int)-55296)) rfl rfl oM (by show IntKind.i32.wrap (((h.1:Int)-55296)*1024)=_;rw[IntKind.wrap_i32];omega)) (Vv (ah.Z7 (c:=65536+1024*((h.1:Int)-55296)) rfl rfl Ip) ?_);refine Mv ?_;obtain⟨P,j,C,f⟩:=Hi.bG At0;refine aO (U5 (l:=l) true j hl hwb) rfl rfl (λn wj v=>?_);obtain⟨rfl,i,A,E,G⟩:=v;have Hj:=f _ A _ i E G;rw[<-N];rw[<-N]at Hj;refine Vv (ah.Z7 (c:=65536+1024*((h.1:Int)-55296)+g.1) rfl rfl Ip) ?_;refine Vv (ah.akc (c:=65536+1024*((h.1:Int)-55296)+g.1-56320) rfl rfl Ip) ?_
    refine V1 ?_;exact aA (65536+1024*((h.1:Int)-55296)+g.1-56320,g.2.1,g.2.2) tR ⟨ay,Hj⟩
   have R: ¬(55296<=h.1/\h.1<56320):=by have h2:=Ig;omega
   rw[zab R]at ay;refine V0 ?_;exact aA ((h.1:Int),h.2.1,h.2.2) tR ⟨ay,Hg⟩
  have R: ¬(55296<=h.1/\h.1<56320):=by have h2:=Sa;omega
  rw[zab R]at ay;refine V1 ?_;exact aA ((h.1:Int),h.2.1,h.2.2) tR ⟨ay,Hg⟩
 rintro⟨n2,a2,e2⟩ τ wk ⟨o,Hk⟩;dsimp only at o Hk;refine Lp ?_;refine Cz (λIh=>?_) (λIh=>?_)
 .rw[zac Ih]at o
  refine V1 ?_;exact⟨by rw[o];rfl,by rw[o];exact Hk.bf⟩
 rw[zab Ih]at o;refine V3 ?_;exact⟨by rw[o];rfl,by rw[o];exact Hk.bf⟩
end
end
section
variable {P:Program} {r:Option Nat} {n:Nat} {ops:AO} {Q:Post} {rest:LO} {σ:St} {w w0:Wd} {S:NP} {rs:List HP} {put:HP->List HP} {ty:Td} {pos:String} {after:Array Edge}
def Vd {y:Od} {t u e:Td} [s:dR P t e] [z:mD P u] [o:Cells P e 1 1] [E:Zero P e (.int .u8 0)]
    (H:Sep w0 S rs w) (c:At rs (mY e (.slice none 0 0) []) put) (C:evF σ x=.slice none 0 0:=by exact rfl) (D:evF σ y=str []:=by exact rfl) (p:Nat.blt d n=true:=by exact rfl)
    (h: ∀w',Sep w0 S (put (mY e (.slice none 0 0) [])) w'->FL P r n ops Q rest (upd σ d (.slice none 0 0)) w'):
    FL P r n ops Q (⟨some d,.call {callee:=.builtin .append,args:= #[x,y],argTypes:= #[t,u]},ty,pos,after,none⟩::rest) σ w:=by
  obtain⟨F,q,_,_⟩:=H.bG c;obtain⟨i,hi,a⟩:=zbb.1 o.size;simp only[Prod.mk.injEq]at a
  have b:i.zero=some (.int .u8 0):=by
    have:=E.run w;simp[zeroValue,typeInfo,hi]at this;cases hq:i.zero with
    | none=>simp[hq]at this
    | some u=>simp[hq]at this;rw[this]
  obtain⟨G,w',f,g,j,m⟩:=Lib.run_append_own_string (P:=P) w 0 t u ty e i s.und z.und hi b a.1 a.2 (.slice none 0 0) 0 [] q.1 ⟨#[]⟩ dC dC (zai _);have A:=m.2 ⟨rfl,rfl⟩;subst A;refine eu (v:=.slice none 0 0) (w':=w') (λ_ _ _ _=>?_) p (h w' (H.CY c j g (.inl rfl)));have k:(Builtin.append_ #[t,u] ty #[.slice none 0 0,.string ⟨#[]⟩]).run P w=.ok (.slice none 0 0) w':=f;simp only[execOp,resolve,invoke,builtin,zbj,zbl,zar,zch,zbc,zcn,C,D,str,k]
end
variable {e:Int} {a i:Nat} {l:L8}
section
attribute [local irreducible] FW FL FG FGn jX lg gD l7 Qfn ah
section
variable {w:Wd} {l:L8}
def KQ {news:L8} (d:l++news≠[]) (q:(xw b l).ok F w) (C:l.length+news.length<=100000000):aX Tryz.prog 92 [aC b,str news] w λr x=>r=.tuple #[I news.length,.nilIface]/\cO F (xw b (l++news)) w x:=by
 obtain⟨a,v,p,H⟩:=Sep.LP (Sep.dA q);refine dn Tryz.func92 ?_;refine V3 ?_;obtain⟨y,f,o,k⟩:=H.bG At0;refine aO (Bn p.1 f) rfl rfl (λD G u=>?_);obtain⟨rfl,c,g,s,t⟩:=u;have i:=k _ g _ c s t;refine V6 ?_;refine NW i (news:=news) At1 oM (h:=?_);intro E J j;obtain⟨A,z,rfl,_⟩:=Sep.xM j At1;refine Uz (λK m=>?_);refine V4 ?_;exact⟨rfl,(Sep.Po ⟨.inr rfl,λe=>zas e d⟩ m).bf⟩
def KR (o:(xw b []).ok F w):aX Tryz.prog 92 [aC b,str []] w λr s=>r=.tuple #[I 0,.nilIface]/\cO F (xw b []) w s:=by
 obtain⟨a,v,f,H⟩:=Sep.LP (Sep.dA o);have e:=f.2 rfl;subst e;refine dn Tryz.func92 ?_;refine V3 ?_;obtain⟨t,d,m,k⟩:=H.bG At0;refine aO (Bn f.1 d) rfl rfl (λx y e=>?_);obtain⟨rfl,c,g,p,q⟩:=e;have i:=k _ g _ c p q;refine V6 ?_;refine Vd i At1 (h:=λz u=>?_);refine Uz (λA j=>?_);refine V4 ?_;exact⟨rfl,(Sep.Po ⟨.inr rfl,λ_=>rfl⟩ j).bf⟩
def tL {l news:L8} (k:(xw b l).ok F w) (a:l.length+news.length<=100000000):aX Tryz.prog 92 [aC b,str news] w λr c=>r=.tuple #[I news.length,.nilIface]/\cO F (xw b (l++news)) w c:=by
 by_cases h:l++news=[]
 .obtain⟨rfl,rfl⟩:=List.append_eq_nil_iff.1 h
  exact KR k
 exact KQ h k a
end
section
def oD (e:Int):jB e 41≠0:=by
 unfold jB
 split
 .decide
 assumption
def L9 (h:e≠0):eB l a e=(0,a,e):=zac h
def yx (h:e≠0):(fG l a e).2.2≠0:=by
 unfold fG;rw[L9 h];show(jB e 41)≠0
 exact oD e
def RV {p:Prop} [Decidable p] (h:e≠0):(if p then jB e 41 else e)≠0:=by
 split
 .exact oD e
 exact h
def ak2 (h:e≠0):(lC l a e c).2≠0:=by
 unfold lC;rw[L9 h];dsimp only
 split
 .exact h
 exact oD e
def aeH {a:Nat} {s:Bool} (h:e≠0):(oC l a e s).2.2≠0:=by
 unfold oC;exact yx (yx (RV (yx (RV (yx h)))))
def Fh (k:a<=l.length) (h:l[a]? =none):(fG l a 0).2.2≠0:=by
 have :a=l.length:=by have:=zgb.1 h;omega
 unfold fG eB;rw[zab sM,zac this];show jB 3 41≠0
 exact oD 3
def yT (h:l[a]? =some c):eB l a 0=(c,a+1,0):=by
 have:=(zba.1 h).1;unfold eB;rw[zab sM,zab oM,zao,h];rfl
def K8 (h:l[a]? =some c) (k:oo c=none):(fG l a 0).2.2≠0:=by
 unfold fG;rw[yT h];dsimp only;rw[k];exact oD 0
def RX (h:l[a]? =some c) (k:oo c=some d):fG l a 0=(d,a+1,0):=by
 unfold fG;rw[yT h];dsimp only;rw[k]
def Vg {l:L8} {a:Nat} {s:Bool} (q:a<=l.length):((tq (l.drop a) s).2=0->oC l a 0 s=((tq (l.drop a) s).1,a+4,0))/\((tq (l.drop a) s).2≠0->(oC l a 0 s).2.2≠0):=by
 unfold tq;simp only[zco,zfi];unfold oC;cases h0:l[a]? with
 | none=>exact⟨λh=>zas h (show ¬(3:Int)=0 from dC),λ_=>yx (yx (RV (yx (RV (Fh q h0)))))⟩
 | some e=>
 have t:=(zba.1 h0).1;dsimp only;cases g0:oo e with
 | none=>exact⟨λh=>zas h (show ¬(41:Int)=0 from dC),λ_=>yx (yx (RV (yx (RV (K8 h0 g0)))))⟩
 | some d=>
 rw[RX h0 g0];dsimp only
 by_cases b:s=true/\d≠13
 .rw[zac b,zac b]
  exact⟨λh=>zas h (show ¬(41:Int)=0 from dC),λ_=>yx (yx (RV (yx (oD 0))))⟩
 rw[zab b,zab b];cases h1:l[a+1]? with
 | none=>exact⟨λh=>zas h (show ¬(3:Int)=0 from dC),λ_=>yx (yx (RV (Fh oM h1)))⟩
 | some f=>
 have u:=(zba.1 h1).1;dsimp only;cases g1:oo f with
 | none=>exact⟨λh=>zas h (show ¬(41:Int)=0 from dC),λ_=>yx (yx (RV (K8 h1 g1)))⟩
 | some c=>
 rw[RX h1 g1];dsimp only
 by_cases k:s≠decide (220<=16*d+c/\16*d+c<=223)
 .rw[zac k,zac k]
  exact⟨λh=>zas h (show ¬(41:Int)=0 from dC),λ_=>yx (yx (oD 0))⟩
 rw[zab k,zab k];cases h2:l[a+2]? with
 | none=>exact⟨λh=>zas h (show ¬(3:Int)=0 from dC),λ_=>yx (Fh oM h2)⟩
 | some g=>
 have v:=(zba.1 h2).1;dsimp only;cases g2:oo g with
 | none=>exact⟨λh=>zas h (show ¬(41:Int)=0 from dC),λ_=>yx (K8 h2 g2)⟩
 | some j=>
 have o:fG l (a+1+1) 0=(j,a+1+1+1,0):=RX h2 g2;rw[o];dsimp only;cases h3:l[a+3]? with
 | none=>exact⟨λh=>zas h (show ¬(3:Int)=0 from dC),λ_=>Fh oM h3⟩
 | some i=>
 dsimp only;cases g3:oo i with
 | none=>exact⟨λh=>zas h (show ¬(41:Int)=0 from dC),λ_=>K8 h3 g3⟩
 | some m=>
 have p:fG l (a+1+1+1) 0=(m,a+1+1+1+1,0):=RX h3 g3;rw[p];exact⟨λ_=>rfl,λh=>zas rfl h⟩
def aeI (r:Nat) (v:Utf8.valid (r:Int)=false):(Utf8.encode (r:Int)).data.toList=[239,191,189]:=by
 simp[Utf8.encode,v,Utf8.runeError]
def Vh (r:Nat):KU (r:Int)=encodeRune (r:Int):=by
 by_cases h:r<=1114111/\(r<55296\/57343<r)
 .exact RN r h.1 h.2
 have v:Utf8.valid (r:Int)=false:=by simp[Utf8.valid];omega
 rw[Fb _ _ (aeI r v)];unfold encodeRune;rw[encodeRuneZ_bad oM];rfl
def Pw {a:Nat} (k:a<=l.length) (h:l[a]? =none):(lC l a 0 c).2≠0:=by
 have :a=l.length:=by have:=zgb.1 h;omega
 unfold lC eB;rw[zab sM,zac this];dsimp only
 split
 .decide
 exact oD 3
def Ma {l:L8} {a:Nat} {x:UInt8} (h:l[a]? =some x) (k:x≠c):(lC l a 0 c).2≠0:=by
 unfold lC;rw[yT h];dsimp only;rw[zab k];exact oD 0
def RY {l:L8} {a:Nat} (h:l[a]? =some c):lC l a 0 c=(a+1,0):=by
 unfold lC;rw[yT h];dsimp only;rw[zac rfl]
def abR (c:UInt8):NM c=if c=47 then some 47 else J8 c:=by
 unfold NM J8
 by_cases h:c=34
 .subst h;rfl
 by_cases k:c=92
 .subst k;rfl
 by_cases a:c=47
 .subst a;rfl
 simp only[h,k,a,if_false]
def ak3:J8 0=none:=dC
def ahs {n:Nat} {g:Nat×Nat×Int} (h:g.2.2≠0):(abQ l n g).2.2≠0:=h
def ajp {n:Nat} {a:Nat×Int} (h:a.2≠0):(Va l n a).2.2≠0:=ahs (aeH (ak2 h))
def ajq {h:Nat×Nat×Int} (k:h.2.2≠0):(Yi l h).2.2≠0:=by
 unfold Yi
 split
 .exact ajp (ak2 k)
 exact k
attribute [local irreducible] oC lC tq fG jB
def aeJ {r:Nat} (hi:i+6<=l.length) (t:55296<=r):((ZL (l.drop i) r).2.2=0->Va l r (lC l (i+6) 0 92)=((ZL (l.drop i) r).1,i+(ZL (l.drop i) r).2.1,0))/\((ZL (l.drop i) r).2.2≠0->(Va l r (lC l (i+6) 0 92)).2.2≠0):=by
 have c:(l.drop i).drop 8=l.drop (i+8):=by rw[zga]
 unfold ZL;rw[zco,zco,c];cases h6:l[i+6]? with
 | none=>exact⟨λh=>zas h (show ¬(3:Int)=0 from dC),λ_=>ajp (Pw hi h6)⟩
 | some d=>
 have m:=(zba.1 h6).1;dsimp only
 by_cases g:d=92
 .subst g
  rw[zab sM,RY h6];cases h7:l[i+7]? with
  | none=>exact⟨λh=>zas h (show ¬(3:Int)=0 from dC),λ_=>ahs (aeH (Pw (a:=i+7) oM h7))⟩
  | some f=>
  have o:=(zba.1 h7).1;dsimp only
  by_cases b:f=117
  .subst b
   rw[zab sM];unfold Va;have j:lC l (i+6+1) 0 117=(i+8,0):=RY h7;dsimp only;rw[j];obtain⟨la,q⟩:=Vg (l:=l) (a:=i+8) (s:=true) oM
   by_cases k:(tq (l.drop (i+8)) true).2≠0
   .rw[zac k]
    exact⟨λh=>zas h k,λ_=>ahs (q k)⟩
   rw[zab k];have p:=la (zcd.1 k);dsimp only;rw[p];refine⟨λ_=>?_,λh=>(h (by dsimp only)).elim⟩;unfold abQ;dsimp only;rw[zab sM];have e:65536+1024*((r:Int)-55296)+((tq (l.drop (i+8)) true).1:Int)-56320=((65536+1024*(r-55296)+(tq (l.drop (i+8)) true).1-56320:Nat):Int):=oM;rw[e,Vh]
  rw[zac b];exact⟨λh=>zas h (show ¬(41:Int)=0 from dC),λ_=>ahs (aeH (Ma (a:=i+7) h7 b))⟩
 rw[zac g];exact⟨λh=>zas h (show ¬(41:Int)=0 from dC),λ_=>ajp (Ma h6 g)⟩
def aeK {s:Bool} (h:(tq l s).2=0):4<=l.length:=by
 unfold tq at h;cases h0:l[0]? with
 | none=>rw[h0]at h;cases h
 | some c=>
 cases h3:l[3]? with
 | some k=>have:=(zba.1 h3).1;omega
 | none=>
  exfalso;simp only[h0,h3]at h
  repeat' split at h
  all_goals first | cases h | exact zas h dC
def aht (hi:i<l.length):((yI (l.drop i)).2.2=0->Bb l (i+1) 0=((yI (l.drop i)).1,i+(yI (l.drop i)).2.1,0))/\((yI (l.drop i)).2.2≠0->(Bb l (i+1) 0).2.2≠0):=by
 have f:(l.drop i).drop 2=l.drop (i+2):=by rw[zga]
 unfold yI Bb;rw[zco,f];cases h1:l[i+1]? with
 | none=>
  have m:i+1=l.length:=by have:=zgb.1 h1;omega
  have o:eB l (i+1) 0=(0,i+1,3):=by unfold eB;rw[zab sM,zac m]
  refine⟨λh=>zas h (show ¬(3:Int)=0 from dC),λ_=>?_⟩;rw[o];unfold Pv;dsimp only;rw[zab (show ¬(0:UInt8)=47 from dC),ak3];exact ajq (aeH (by rw[zab (show ¬(0:UInt8)=117 from dC)];exact oD 3))
 | some c=>
 have q:=(zba.1 h1).1;rw[yT h1];unfold Pv;dsimp only;rw[abR]
 by_cases d:c=47
 .rw[zac d,zac d]
  subst d;exact⟨λ_=>by dsimp only,λh=>(h (by dsimp only)).elim⟩
 rw[zab d,zab d];cases hb:J8 c with
 | some k=>exact⟨λ_=>by dsimp only,λh=>(h (by dsimp only)).elim⟩
 | none=>
 dsimp only
 by_cases b:c=117
 .rw[zab (by simp[b]),zac b]
  obtain⟨la,t⟩:=Vg (l:=l) (a:=i+2) (s:=false) oM
  by_cases e:(tq (l.drop (i+2)) false).2≠0
  .rw[zac e]
   exact⟨λh=>zas h e,λ_=>ajq (t e)⟩
  rw[zab e];have p:=aeK (zcd.1 e);rw[zbm]at p;have g:oC l (i+1+1) 0 false=((tq (l.drop (i+2)) false).1,i+6,0):=la (zcd.1 e);rw[g];unfold Yi;dsimp only
  generalize (tq (l.drop (i+2)) false).1=r at g
  by_cases j:r<55296\/56319<r
  .rw[zac j,zab oM,zab sM,Vh]
   exact⟨λ_=>by dsimp only,λh=>(h (by dsimp only)).elim⟩
  rw[zab j,zac oM];exact aeJ oM oM
 rw[zac b,zab b];exact⟨λh=>zas h (show ¬(41:Int)=0 from dC),λ_=>ajq (aeH (oD 0))⟩
end
section
def ajr:jB 0 3=3:=rfl
def abS {l:L8}:(Ui l).1=if(lC l 0 0 34).2=0 then(qz l (lC l 0 0 34).1 []).1 else []:=by
 cases l with
 | nil=>rfl
 | cons c t=>
  by_cases h:c=34
  .subst h
   rw[RY (l:=34::t) (a:=0) rfl,zac rfl];rfl
  rw[zab (Ma (l:=c::t) (a:=0) rfl h)];show(if c≠34 then(([],0,41):L8×Nat×Int)else tu (t.length+1) t 1 []).1=[]
  rw[zac h]
def abT {out:L8} (h:i<l.length) (k:l.getD i 0=34):(qz l i out).1=out:=by
 rw[EJ h k.symm,zac rfl]
def ahu {l:L8} {out:L8} (h:i<l.length) (e:l.getD i 0=92):((Bb l (i+1) 0).2.2=0->(qz l i out).1=(qz l (Bb l (i+1) 0).2.1 (out++(Bb l (i+1) 0).1)).1)/\((Bb l (i+1) 0).2.2≠0->(qz l i out).1=[]):=by
 obtain⟨c,d⟩:=aht h;have k:=EJ (out:=out) h e.symm;rw[zab dC,zab dC,zac rfl]at k
 by_cases a:(yI (l.drop i)).2.2=0
 .have b:=c a
  rw[zab (by simp[a])]at k;rw[k,b];exact⟨λ_=>rfl,λh=>zas rfl h⟩
 rw[zac a]at k;have b:=d a;rw[k];exact⟨λh=>zas h b,λ_=>rfl⟩
def abU {l:L8} {out:L8} (h:i<l.length) (b:l.getD i 0≠34) (c:l.getD i 0≠92):((og l i).2.2=true->(qz l i out).1=(qz l (og l i).2.1 (out++(og l i).1)).1)/\((og l i).2.2=false->(qz l i out).1=[]):=by
 have a:=EJ (out:=out) h rfl;rw[zab b]at a;unfold og
 by_cases k:(l.getD i 0).toNat<32
 .rw[zac k]
  rw[zac (UInt8.lt_iff_toNat_lt.2 k)]at a;rw[a];exact⟨λh=>by(dsimp only at h;cases h),λ_=>rfl⟩
 rw[zab k];rw[zab (λh=>k (UInt8.lt_iff_toNat_lt.1 h)),zab c]at a;cases hn:iI (l.drop i)with
 | none=>
  rw[hn]at a;rw[a,zab sM];exact⟨λh=>by(dsimp only at h;cases h),λ_=>rfl⟩
 | some p=>
  obtain⟨r,n⟩:=p;have d:lJ (l.drop i)=(r,n):=by unfold lJ;rw[hn];rfl
  rw[hn,d,zac sM]at a;rw[a];exact⟨λ_=>rfl,λh=>by(dsimp only at h;cases h)⟩
def Vi (r:Int):(KU r).length<=4:=by
 unfold KU Utf8.encode;dsimp only
 repeat' split
 all_goals simp
attribute [local irreducible] oC lC fG jB eB
def Yk {l:L8} {a:Nat} {e:Int} (c:a<=l.length):(Bb l a e).1.length<=4/\(Bb l a e).2.1<=l.length:=by
 have k:=take_at (e:=e) c;unfold Bb Pv
 split
 .exact⟨sM,k⟩
 split
 .exact⟨sM,k⟩
 have b:=RQ (e:=if(eB l a e).1=117 then(eB l a e).2.2 else jB (eB l a e).2.2 41) (s:=false) k
 generalize oC l (eB l a e).2.1 (if(eB l a e).1=117 then(eB l a e).2.2 else jB (eB l a e).2.2 41) false=h at *
 unfold Yi
 split
 .refine⟨?_,RQ (Fe (Fe b))⟩
  unfold Va abQ;dsimp only
  split
  .simp
  exact Vi _
 refine⟨?_,b⟩;dsimp only
 split
 .simp
 exact Vi _
def Mc (l:L8) (a:Nat) (e:Int):a<=(eB l a e).2.1:=by
 unfold eB
 split
 .exact zbk _
 split
 .exact zbk _
 dsimp only;omega
def CU (l:L8) (a:Nat) (e:Int):a<=(fG l a e).2.1:=by
 unfold fG
 split<;>exact Mc l a e
def Vj (l:L8) (a:Nat) (e:Int) (s:Bool):a<=(oC l a e s).2.1:=by
 unfold oC;exact zcl (zcl (zcl (CU l a e) (CU l _ _)) (CU l _ _)) (CU l _ _)
def Vk (l:L8) (a:Nat) (e:Int) (c:UInt8):a<=(lC l a e c).1:=by
 unfold lC;exact Mc l a e
def ahv {l:L8} {a:Nat} {e:Int}:a<=(Bb l a e).2.1:=by
 have k:=Mc l a e;unfold Bb Pv
 split
 .exact k
 split
 .exact k
 have b:=Vj l (eB l a e).2.1 (if(eB l a e).1=117 then(eB l a e).2.2 else jB (eB l a e).2.2 41) false
 generalize oC l (eB l a e).2.1 (if(eB l a e).1=117 then(eB l a e).2.2 else jB (eB l a e).2.2 41) false=h at *
 unfold Yi
 split
 .unfold Va abQ
  dsimp only;exact zcl (zcl (zcl (zcl k b) (Vk l _ _ _)) (Vk l _ _ _)) (Vj l _ _ _)
 exact zcl k b
def RZ {l:L8} (hi:i<l.length):(og l i).1.length<=4*((og l i).2.1-i)/\i<=(og l i).2.1/\(og l i).2.1<=l.length/\((og l i).2.2=true->i<(og l i).2.1):=by
 unfold og
 split
 .exact⟨sM,zbk _,dO,λh=>by cases h⟩
 split
 .rename_i r n a
  obtain⟨_,b,k,_⟩:=uO a;rw[zbm]at k;dsimp only;rw[zah,zbm];exact⟨oM,oM,oM,λ_=>oM⟩
 exact⟨sM,zbk _,dO,λh=>by cases h⟩
section
variable {w:Wd}
theorem Vm (l:L8) (Z:l.length<=1000000) (hT:gK w):aX Tryz.prog 215 [str l] w λv w'=>(∃n e,v=.tuple #[str (Ui l).1,I n,I e])/\aS noB w w':=by
 have H:=Sep.aI w;obtain⟨r,ay⟩: ∃r,r=(Ui l).1:=⟨_,rfl⟩;have G:=ay;rw[abS]at ay;have Q:=Fe (l:=l) (at_:=0) (e:=0) (c:=34) (zai _);rw[<-G];refine dL Tryz.func215 ?_;refine V4 ?_;refine Vb [str l,I 0,I 0] ?_;refine bK H (cs:=[str l,I 0,I 0]) rfl (h:=λb5 w7 H7 k6=>?_);refine V2 ?_;obtain⟨J,d,t,k⟩:=H7.bG At0;refine aO (L6 (l:=l) (at_:=0) (e:=0) 34 d Z (zai _)) rfl rfl (λK wa y=>?_);obtain⟨rfl,b,F,s,u⟩:=y;have Ha:=k _ F _ b s u;refine Az (λb6 wb N ka=>?_);replace N:=Sep.ahn N;refine V0 ?_;refine aM (λ_:Nat×Int×L8=>[(0,str l),(5,aC b5),(6,aC b6)]) (λx w'=>(x.1<=l.length/\x.2.2.length<=4*x.1/\r=if x.2.1=0 then(qz l x.1 x.2.2).1 else [])/\Sep w noB [xw b6 x.2.2,tK b5 l x.1 x.2.1] w') (λx _=>if x.2.1=0 then l.length-x.1+1 else 0) ((lC l 0 0 34).1,(lC l 0 0 34).2,[]) tR ⟨⟨Q,sM,ay⟩,N⟩ (λx τ wc hI=>?_);obtain⟨i,e,out⟩:=x;obtain⟨⟨hi,M,f⟩,L⟩:=hI;dsimp only at hi M f L;unfold tK at L;refine Lp ?_;refine Cz (λO=>?_) (λO=>?_)
 .have Y:e=0:=O
  subst Y;rw[zac rfl]at f;refine Cz (λIf=>?_) (λIf=>?_)
  .have Gq:i=l.length:=oM
   have o:r=[]:=by rw[f,Rb oM]
   refine V1 ?_;obtain⟨J,d,t,k⟩:=L.bG At1;refine aO (oU (l:=l) (e:=0) 3 d) rfl rfl (λK wd y=>?_);obtain⟨rfl,b,F,s,u⟩:=y;have Hd:=k _ F _ b s u;rw[ajr]at Hd;refine V0 ?_;exact ak (i,3,out) tR ⟨⟨hi,M,by rw[o];rfl⟩,Hd⟩ (by show 0<(if(0:Int)=0 then _ else _);rw[zac rfl];omega)
  have A:i<l.length:=oM;refine Cz (λR=>?_) (λR=>?_)
  .have T:l.getD i 0=34:=UInt8.toNat_inj.1 (by have h:=R;show(l.getD i 0).toNat=34;omega)
   rw[abT A T]at f;refine Dz (λS we He=>?_);refine Gm S 1 ?_;refine V4 ?_;obtain⟨J,d,t,k⟩:=He.bG At0;refine p8 S 0 [(5,true),(4,false),(3,true),(2,true),(1,true)] rfl kR (CQ d oM) rfl kR kR (λK wf y=>?_);obtain⟨rfl,b,F,s,u⟩:=y;have Hf:=k _ F _ b s u;refine⟨sL,?_⟩;refine Gp S 6 rfl rfl (λ_=>ah.assign rfl) (V2 ?_);exact⟨⟨_,_,by rw[f];rfl⟩,Hf.au⟩
  have T:l.getD i 0≠34:=λh=>R IY;refine Cz (λV=>?_) (λV=>?_)
  .have W:l.getD i 0=92:=UInt8.toNat_inj.1 (by have h:=V;show(l.getD i 0).toNat=92;omega)
   obtain⟨j,m⟩:=ahu (out:=out) A W;rw[<-f]at j m;obtain⟨D,z⟩:=Yk (l:=l) (a:=i+1) (e:=0) oM;have p:=ahv (l:=l) (a:=i+1) (e:=0);obtain⟨q,s⟩: ∃q,q=Bb l (i+1) 0:=⟨_,rfl⟩;rw[<-s]at j m D z p
   have E:r=if q.2.2=0 then(qz l q.2.1 (out++q.1)).1 else []:=by
    split
    .exact j (by assumption)
    exact m (by assumption)
   refine V4 ?_;refine Vc ((i+1:Nat):Int) ?_;refine Uz (λwg Hg=>?_);refine V1 ?_;obtain⟨J,d,t,k⟩:=Hg.bG At1;refine aO (Yj (l:=l) (at_:=i+1) (e:=0) d Z oM) rfl rfl (λK wh y=>?_);obtain⟨rfl,b,F,g,u⟩:=y;have Hh:=k _ F _ b g u;rw[<-s];rw[<-s]at Hh;obtain⟨J,d,t,k⟩:=Hh.bG At0;refine aO (tL d oM) rfl rfl (λK wi y=>?_);obtain⟨rfl,b,F,g,u⟩:=y;have Hi:=k _ F _ b g u;refine V0 ?_;exact ak (q.2.1,q.2.2,out++q.1) tR ⟨⟨z,by dsimp only;rw[zad];omega,E⟩,Hi⟩ (by dsimp only;rw[zac rfl];split<;>omega)
  have W:l.getD i 0≠92:=λh=>V IY;obtain⟨j,m⟩:=abU (out:=out) A T W;rw[<-f]at j m;obtain⟨D,X,z,p⟩:=RZ A;obtain⟨q,s⟩: ∃q,q=og l i:=⟨_,rfl⟩;rw[<-s]at j m D z X p;refine V1 ?_;obtain⟨J,d,t,k⟩:=L.bG At1;refine aO (abM (l:=l) (at_:=i) d Z A (hT.aK L.au).utf) rfl rfl (λK wj y=>?_);obtain⟨x1,rfl,C,b,F,g,u⟩:=y;have Hj:=k _ F _ b g u;rw[<-s]at C;rw[<-s];rw[<-s]at Hj
  have E:r=if x1=0 then(qz l q.2.1 (out++q.1)).1 else []:=by
   split
   .exact j (C.2 (by assumption))
   rename_i h0;cases hb:q.2.2 with
   | true=>exact zas (C.1 hb) h0
   | false=>exact m hb
  have P:(if x1=0 then l.length-q.2.1+1 else 0)<l.length-i+1:=by
   split
   .have:=p (C.2 (by assumption));omega
   omega
  obtain⟨J,d,t,k⟩:=Hj.bG At0;refine aO (tL d oM) rfl rfl (λK wk y=>?_);obtain⟨rfl,b,F,g,u⟩:=y;have Hk:=k _ F _ b g u;refine V0 ?_;exact ak (q.2.1,x1,out++q.1) tR ⟨⟨z,by dsimp only;rw[zad];omega,E⟩,Hk⟩ (by dsimp only;rw[zac rfl];exact P)
 have o:r=[]:=by rw[f,zab O]
 refine Dz (λSb wl Hl=>?_);refine V7 ?_;exact⟨⟨_,_,by rw[o];rfl⟩,Hl.au⟩
end
end
open Go.Proofs.Tryz
def Yl {w:L8} {k:Int} (g:w≠[]) (i:1<=k) (m:k<=5) (h: ∀j:Int,1<=j->j<k->oN j≠w) (f:oN k=w):[1,3,4,5].find? (λk:Int=>decide (oN k=w))=some k:=by
 have d: ∀j:Int,1<=j->j<k->decide (oN j=w)=false:=λj a b=>zam (h j a b);have c:decide (oN k=w)=true:=zau f
 rcases (by omega :k=1\/k=2\/k=3\/k=4\/k=5)with e | e | e | e | e<;>subst e
 .simp only[zcm,c]
 .exact zas f.symm g
 .simp only[zcm,d 1 oM oM,c]
 .simp only[zcm,d 1 oM oM,d 3 oM oM,c]
 simp only[zcm,d 1 oM oM,d 3 oM oM,d 4 oM oM,c]
def Ym {w:L8} (h: ∀k:Int,1<=k->k<6->oN k≠w):[1,3,4,5].find? (λk:Int=>decide (oN k=w))=none:=by
 rw[zfb];intro k a;simp only[zax,zal,or_false]at a;have:=h k oM oM;simpa using this
def abV:[1,3,4,5].find? (λk:Int=>decide (oN k=[]))=none:=dC
def Yn (w:L8) (c:UInt8):Lib.hasPrefix w [c]=decide (w.head?=some c):=by
 unfold Lib.hasPrefix;cases w with
 | nil=>rfl
 | cons x t=>
  by_cases h:c=x
  .subst h;simp[List.isPrefixOf]
  have k: ¬x=c:=λe=>h e.symm;simp[List.isPrefixOf,h,k]
def ahw {p:L8->Bool} (h:mo.findIdx? p=some i):mo[i]? =mo[i]? /\i<12:=by
 obtain⟨k,_⟩:=zcr.1 h;exact⟨rfl,k⟩
section
variable {w:Wd}
def J9 (l:L8) (m:l.length<=1000000) (i:gK w):aX prog 214 [str l,I 10,I 64] w λv b=>(∃e,v=.tuple #[I (nN l),e])/\aS noB w b:=by
 have d:(⟨l.toArray⟩:ByteArray).size=l.length:=Mw.size_mk l;cases h:Lib.parseIntB 64 l
 .rename_i v
  have a:nN l=v:=by unfold nN;rw[h]
  rw[a]
  exact Calls.mono (Tryz.strconv_ParseInt_10_at64_ok ⟨l.toArray⟩ (by rw[d];omega) v h w) λe b k=>by
   obtain⟨rfl,j⟩:=k;refine⟨⟨_,rfl⟩,?_⟩
   rcases j with rfl | ⟨t,rfl⟩
   .exact aS.refl _ _
   exact aS.of_below (Lib.bytesWorld_below _ _ _)
 .skip
  have a:nN l=0:=by unfold nN;rw[h]
  rw[a];obtain⟨g,p,f⟩:=i.syn
  exact Calls.mono (Tryz.strconv_ParseInt_10_at64_syntax_var ⟨l.toArray⟩ (by rw[d];omega) h rfl g p w f) λe b k=>by
   obtain⟨N,rfl,_,_,c⟩:=k;exact⟨⟨_,rfl⟩,aS.of_below c⟩
 skip;have a:nN l=Lib.intSat 64 l:=by unfold nN;rw[h]
 rw[a];obtain⟨g,p,f⟩:=i.ran
 exact Calls.mono (Tryz.strconv_ParseInt_10_at64_range_var ⟨l.toArray⟩ (by rw[d];omega) h g p w f) λe b k=>by
  obtain⟨N,rfl,_,_,c⟩:=k;exact⟨⟨_,rfl⟩,aS.of_below c⟩
def zU (l:L8) (c:UInt8):aX prog 213 [str l,str [c]] w λv h=>v=.bool (decide (l.head?=some c))/\w=h:=
 lN (by
  have:=Tryz.strings_HasPrefix ⟨l.toArray⟩ ⟨[c].toArray⟩ w;rw[<-Yn];exact this)
theorem abW (s:L8) (X:s.length<=1000000) (F:gK w):Rk prog 132 [str s] w (agg (aQ (gB s))):=by
  have H:=Sep.aI w;obtain⟨r,ay⟩: ∃r,r=gB s:=⟨_,rfl⟩;rw[<-ay];unfold gB at ay;obtain⟨t,v⟩: ∃t,t=mo.findIdx? (λx=>decide (x=s)):=⟨_,rfl⟩
  have D:mo.findIdx? (λy=>decide (s=y))=t:=by
    rw[v];exact zay (λp=>mo.findIdx? p) (funext λy=>zbg.2 eq_comm)
  rw[<-v]at ay;refine pI func132 ?_;refine Az (λb1 w2 H2 k1=>?_);refine V0 ?_;refine aO (U2) rfl rfl (λG w4 o=>?_);obtain⟨T,rfl,_,d,F1,hq,E⟩:=o;have H4:=H2.new d hq (λb hb=>(E b hb).resolve_left id);have hR:Rd w4 (some ⟨T,0,none⟩) gG 1 mo:=Sep.mg H4 At0 rfl;have W:aP w4 (.slice (some ⟨T,0,none⟩) 12 12) gG 1 mo:=⟨some ⟨T,0,none⟩,12,rfl,⟨zbk _,dC⟩,hR⟩;refine Mv ?_;refine Kz (abu s W) (λw7 H7 k6=>?_);rw[D];refine Cz (λJ=>?_) (λJ=>?_)
  . obtain⟨i,hi⟩: ∃i:Nat,t=some i:=by
      cases t with
      | some i=>exact⟨i,rfl⟩
      | none=>exact zas J dC
    have C:zM t=(i:Int):=by rw[hi];rfl
    rw[hi]at ay;dsimp only at ay;refine V1 ?_;rw[C];refine Vv (ah.Rz (c:=(7+(i:Int))) rfl rfl rfl (by have:=(ahw (v.symm.trans hi)).2;omega)) (Vb (aQ ⟨7+(i:Int),0,[]⟩) ?_);refine Tz (λwa Y=>?_);refine V0 ?_;exact⟨_,gT Y,by rw[ay];rfl,Y.au⟩
  have hi:t=none:=by
    cases t with
    | none=>rfl
    | some i=>exact zas (show zM (some i)≥0 from Int.natCast_nonneg i) J
  rw[hi]at ay;dsimp only at ay;refine V1 ?_;refine aM (λk:Nat=>[(0,str s),(2,.pointer (some ⟨b1,0,none⟩)),(4,I k)]) (λk w'=>(1<=k/\k<=6/\∀j:Int,1<=j->j<k->s≠[]->oN j≠s)/\Sep w noB [blk b1 (aQ ⟨0,0,[]⟩) 41] w') (λk _=>6-k) 1 tR ⟨⟨zbk _,dC,λj a b=>zas b oM⟩,(H7.aJ).firsts (l:=[_])⟩ (λk τ wb hI=>?_);obtain⟨⟨hk1,hk6,g⟩,f⟩:=hI;refine Lp ?_;refine Cz (λIf=>?_) (λIf=>?_)
  . refine Sz (λS=>?_) (λS=>?_)
    . have m:s≠[]:=S
      refine Kz (RG (k:Int)) (λwc Hc ka=>?_);refine Cz (λK=>?_) (λK=>?_)
      . have u:[1,3,4,5].find? (λk:Int=>decide (oN k=s))=some (k:Int):=Yl m oM oM (λj a b=>g j a b m) (Eq.symm K)
        rw[u]at ay;dsimp only at ay;refine V1 ?_;refine Vb (aQ ⟨6,(k:Int),[]⟩) ?_;refine Tz (λwd Z=>?_);refine V0 ?_;exact⟨_,gT Z,by rw[ay];rfl,Z.au⟩
      have z:s≠[]->oN (k:Int)≠s:=λ_ h=>K h.symm;refine V3 ?_;exact ak (k+1) tR ⟨⟨oM,oM,λj a b q=>by
      by_cases e:j=k
      . rw[e];exact z q
      exact g j a oM q⟩,Hc⟩ oM
    have m:s=[]:=zcd.1 S;have z:s≠[]->oN (k:Int)≠s:=λh=>zas m h;refine V4 ?_;exact ak (k+1) tR ⟨⟨oM,oM,λj a b q=>by
    by_cases e:j=k
    . rw[e];exact z q
    exact g j a oM q⟩,f⟩ oM
  have hk:k=6:=oM
  have u:[1,3,4,5].find? (λk:Int=>decide (oN k=s))=none:=by
    by_cases q:s=[]
    . rw[q];exact abV
    exact Ym λj a b=>g j a oM q
  rw[u]at ay;dsimp only at ay;refine Cz (λL=>?_) (λL=>?_)
  . rw[zac (show s=abf from L)]at ay
    refine Sr (Vb (aQ ⟨3,1,[]⟩) ?_);refine Tz (λwe n=>?_);refine V0 ?_;exact⟨_,gT n,by rw[ay];rfl,n.au⟩
  rw[zab (show ¬s=abf from L)]at ay;refine Cz (λM=>?_) (λM=>?_)
  . rw[zac (show s=Uj from M)]at ay
    refine Sr (Vb (aQ ⟨3,0,[]⟩) ?_);refine Tz (λwf P=>?_);refine V0 ?_;exact⟨_,gT P,by rw[ay];rfl,P.au⟩
  rw[zab (show ¬s=Uj from M)]at ay;refine V1 ?_;refine fF (zU s 35) (h:=?_);refine Am ?_;refine Cz (λN=>?_) (λN=>?_)
  . have A:s.head?=some 35:=N
    rw[zac A]at ay;refine V1 ?_;refine Vv (ah.qd (i:=1) rfl rfl (by cases s with | nil=>cases A | cons a b=>simp)) (aO (J9 (s.drop 1) Iz (F.aK f.au)) rfl rfl (λG wg o=>?_));obtain⟨⟨V,rfl⟩,d⟩:=o;have Hg:=f.aK d;refine V6 ?_;refine Vb (aQ ⟨1,nN (s.drop 1),[]⟩) ?_;refine Tz (λwh Q=>?_);refine V0 ?_;exact⟨_,gT Q,by rw[ay];rfl,Q.au⟩
  rw[zab (show ¬s.head?=some 35 from N)]at ay;refine V1 ?_;refine fF (zU s 34) (h:=?_);refine Am ?_;refine Cz (λO=>?_) (λO=>?_)
  . rw[zac (show s.head?=some 34 from O)]at ay
    refine V1 ?_;refine aO (Vm s X (F.aK f.au)) rfl rfl (λG wi o=>?_);obtain⟨⟨nn,V,rfl⟩,d⟩:=o;have Hi:=f.aK d;refine V8 ?_;refine Vb (aQ ⟨4,0,(Ui s).1⟩) ?_;refine Tz (λwj Hj=>?_);refine V0 ?_;exact⟨_,gT Hj,by rw[ay];rfl,Hj.au⟩
  rw[zab (show ¬s.head?=some 34 from O)]at ay;refine V1 ?_;refine fF (zU s 120) (h:=?_);refine Am ?_;refine Cz (λR=>?_) (λR=>?_)
  . have A:s.head?=some 120:=R
    rw[zac A]at ay;refine Sr (Vb (aG iN) ?_);refine Mv ?_;refine aO (Yf s X A (F.aK f.au).utf) rfl rfl (λG wk o=>?_);obtain⟨⟨V,rfl⟩,d⟩:=o;have Hk:=f.aK d;refine Az (λb129 wl Hl kb=>?_);refine Tz (λwm Hm=>?_);refine V3 ?_;refine Vb (aQ ⟨5,0,Gd s⟩) ?_;refine Tz (λwn Hn=>?_);refine V0 ?_;exact⟨_,gT Hn,by rw[ay];rfl,Hn.au⟩
  rw[zab (show ¬s.head?=some 120 from R)]at ay;refine V1 ?_;refine aO (J9 s X (F.aK f.au)) rfl rfl (λG wo o=>?_);obtain⟨⟨V,rfl⟩,d⟩:=o;have Ho:=f.aK d;refine V6 ?_;refine Vb (aQ ⟨2,nN s,[]⟩) ?_;refine Tz (λwp Hp=>?_);refine V0 ?_;exact⟨_,gT Hp,by rw[ay];rfl,Hp.au⟩
end
def yU (h:Lib.indexByte l 32= -1):dK 32 l=[l]:=
 EG λc a e=>by
  obtain⟨k,b⟩:=zdf a;exact Lib.indexByte_none h k (by rw[b,e])
def GY {o:Nat} (h:Lib.indexByte l 32=o):o<l.length/\dK 32 l=l.take o::dK 32 (l.drop (o+1)):=by
 obtain⟨d,g⟩:=Lib.indexByte_some h;have a:=(zba.1 d).1
 have e:l=l.take o++32::l.drop (o+1):=by
  have f:l.drop o=32::l.drop (o+1):=by
   rw[zbn a]
   congr 1
   rw[zaa a]at d;injection d
  conv=>lhs;rw[<-zbs o l,f]
 refine⟨a,?_⟩
 have:=JM (sep:=32) (w:=l.take o) (l:=l.drop (o+1)) λc i e=>by
  obtain⟨k,b⟩:=zdf i;rw[zcq]at b
  split at b
  .exact g k oM (by rw[b,e])
  cases b
 rw[<-this,<-e]
section
variable {w:Wd}
def Vp (l:L8):aX prog 210 [str l,str [32]] w λv h=>v=I (Lib.indexByte l 32)/\w=h:=
 lN (Tryz.strings_Index_one ⟨l.toArray⟩ 32 w)
def Yo {S:NP} {w0:Wd} {J:List (L8)->HP} {L:List (L8)->L8->HP} {l D:Nat} {ro Q:Obj} {r P bV:Nat} {s:L8} (T:s.length<=1000000)
    (G:Sep w0 S [obj l ro,obj D (.deferred (some [])),J [],blk r [str [32]] 9,blk P [str s] 9,blk bV [I 0] 3] w)
    (F: ∀(pre:List (L8)) (x:L8) (Fr:List HP) (W:Wd),pre++[x]<+:dK 32 s->Sep w0 S (obj l ro::obj D (.deferred (some []))::J pre::Fr) W->TR prog l [str x] W λb g=>if b=true then Sep w0 S (obj l ro::obj D (.deferred (some []))::J (pre++[x])::Fr) g else Sep w0 S [obj l Q,obj D (.deferred (some [])),L pre x] g):
    aX prog 273 [.func (.yield l) #[] #[],aC r,aC P,aC bV] w λ_ g=>Sep w0 S [obj l ro,obj D (.deferred (some [])),J (dK 32 s)] g\/∃pre x,pre++[x]<+:dK 32 s/\Sep w0 S [obj l Q,obj D (.deferred (some [])),L pre x] g:=by
  have H:=G;refine yM func273 ?_;refine Cz (λp=>?_) (λp=>?_)
  . exact zas p dC
  refine V0 ?_;refine aM (λ_:List (L8)×L8=>[(0,.func (.yield l) #[] #[]),(1,aC r),(2,aC P),(3,aC bV)]) (λx N=>(x.1++dK 32 x.2=dK 32 s/\x.2.length<=s.length)/\Sep w0 S [obj l ro,obj D (.deferred (some [])),J x.1,blk r [str [32]] 9,blk P [str x.2] 9,blk bV [I 0] 3] N) (λx _=>x.2.length) ([],s) tR ⟨⟨rfl,zbk _⟩,H⟩ (λx n V M=>?_);obtain⟨pre,t⟩:=x;obtain⟨⟨d,A⟩,u⟩:=M;dsimp only at d A u;refine Lp ?_;refine V2 ?_;refine fF (Vp t) (h:=?_);refine Cz (λv=>?_) (λv=>?_)
  . have e:Lib.indexByte t 32= -1:=by have j:=v;have R:=Lib.indexByte_ge t 32;omega
    have a:pre++[t]<+:dK 32 s:=by rw[<-d,yU e];exact List.prefix_refl _
    have m:pre++[t]=dK 32 s:=by rw[<-d,yU e]
    refine V2 ?_;refine Dl rfl (F pre t _ _ a u) rfl rfl (λf X k=>?_);refine V0 ?_;cases f with
    | true=>rw[zac rfl]at k;rw[<-m];exact .inl (k.firsts (l:=[_,_,_]))
    | false=>rw[zab dC]at k;exact .inr ⟨pre,t,a,k⟩
  obtain⟨o,C⟩: ∃o:Nat,Lib.indexByte t 32=o:=⟨(Lib.indexByte t 32).toNat,by have j:=v;omega⟩;obtain⟨E,q⟩:=GY C
  have a:pre++[t.take o]<+:dK 32 s:=by
    rw[<-d,q];exact⟨dK 32 (t.drop (o+1)),sM⟩
  rw[C];refine V3 ?_;refine Vc (o:Int) ?_;refine Vv (ah.qP (i:=o) rfl rfl oM) (V3 ?_);refine Dl rfl (F pre (t.take o) _ _ a u) rfl rfl (λf Y k=>?_);refine O1 ?_;refine Qn (Cd rfl (λy=>?_) (λy=>?_))
  . have z:f=false:=by have j:=y;revert j;cases f<;>simp
    rw[z,zab dC]at k;refine V0 ?_;exact .inr ⟨pre,t.take o,a,k⟩
  have z:f=true:=by have j:=y;revert j;cases f<;>simp
  rw[z,zac rfl]at k;have O:=k;refine V4 ?_;refine Vv (ah.Rz (c:=((o+1:Nat):Int)) rfl rfl (by show(o:Int)+1=_;omega) oM) (Vv (ah.qd (i:=o+1) rfl rfl oM) ?_);refine Uz (λZ K=>?_);refine V0 ?_;exact ak (pre++[t.take o],t.drop (o+1)) tR ⟨⟨by dsimp only;rw[<-d,q];simp,by dsimp only;rw[zbm];omega⟩,K⟩ (by dsimp only;rw[zbm];omega)
end
def Fj {P:Program} {T:Td} [h:OneCell P T] {w:Wd} {v:Value} {E:Td} (k:w.heap[b]? =some (.cells [v].toArray E (0,0))):(loadVar T ⟨b,0,none⟩).run P w=.ok v w:=by
 have a:w.cell? ⟨b,0,none⟩=some v:=lu k 0;simp[loadVar,h.agg,a]
def Vr {P:Program} {T U:Td} [OneCell P T] [OneCell P U] {σ:St} {w:Wd} {x y:Nat} {v u:Value} {E F:Td} (c:w.heap[x]? =some (.cells [v].toArray E (0,0))) (d:w.heap[y]? =some (.cells [u].toArray F (0,0)))
    (h:σ a=.pointer (some ⟨x,0,none⟩):=by exact rfl) (k:σ b=.pointer (some ⟨y,0,none⟩):=by exact rfl):qV P σ w [.cell a T,.cell b U] [v,u]:=
  ⟨v,[u],⟨x,0,none⟩,rfl,h,Fj c,u,[],⟨y,0,none⟩,rfl,k,Fj d,rfl⟩
def Vs: ∀(l:L8),∀w∈dK 32 l,w.length<=l.length
 | [],w,h=>by
  have :w=[]:=by simpa[dK]using h
  rw[this];simp
 | c::l,w,h=>by
  have i:=Vs l
  by_cases k:c=32
  .rw[dK,zac k]at h
   rcases zax.1 h with rfl | h
   .simp
   have:=i w h;simp only[zat];omega
  obtain⟨b,ws,e,a⟩:=qg (sep:=32) (l:=l) k;rw[a]at h;rw[e]at i
  rcases zax.1 h with rfl | h
  .have:=i b sM
   simp only[zat];omega
  have:=i w (zap _ h);simp only[zat];omega
def xJ (w:L8):cB (gB w).n:=by
 unfold gB cB
 split
 .dsimp only;omega
 split
 .rename_i k h
  have:=zek h;simp at this;dsimp only;omega
 repeat' split
 all_goals first | exact KI _ | (dsimp only;omega)
def Ka: ∀{ws:List (L8)},(∀y∈ws,tF (gB y) y=true)->readAll ws=some (ws.map gB)
 | [],_=>rfl
 | w::ws,h=>by
  rw[readAll,zac (h w sM),Ka λy k=>h y (zap _ k)];rfl
def Ke: ∀{ws:List (L8)} {x:L8},x∈ws->tF (gB x) x=false->readAll ws=none
 | w::ws,x,h,hb=>by
  rw[readAll]
  split
  .rename_i k
   rcases zax.1 h with rfl | h
   .rw[hb]at k;cases k
   rw[Ke h hb];rfl
  rfl
def aeL (b:Nat) (l:List bH):HP:=exH λv=>dx (blk b [v] 29) (aY 41 3 aQ v l)
def ajs (b2 b3 b4:Nat) (pre:List (L8)):HP:=jA [jH (∀y∈pre,tF (gB y) y=true),blk b2 [.slice none 0 0] 29,blk b3 [I 0] 33,aeL b4 (pre.map gB)]
def amX (b2 b3:Nat) (_:List (L8)) (x:L8):HP:=jA [jH (tF (gB x) x=false),blk b2 [.slice none 0 0] 29,blk b3 [I 4] 33]
section
variable {w:Wd}
def Vt (s:L8):aX Tryz.prog 211 [str s,str [32],I 0] w λv f=>∃x:Nat×Nat×Nat,v=.func (.func 273) #[] #[aC x.1,aC x.2.1,aC x.2.2]/\True/\cO noB (dx (blk x.1 [str [32]] 9) (dx (blk x.2.1 [str s] 9) (blk x.2.2 [I 0] 3))) w f:=by
 have H:=Sep.aI w;refine uU Tryz.func211 ?_;refine Sr (bK H (h:=λc m k g=>?_));refine bK k (h:=λd o a i=>?_);refine bK a (h:=λe p b j=>?_);refine V1 ?_;refine Vv (ah.makeFunc (fs:=[]) (us:=[]) (cs:=[.tmp 4,.tmp 3,.tmp 5]) rfl rfl) (V1 ?_);exact⟨(d,c,e),rfl,trivial,(Sep.aZ (Sep.aJ (Sep.aZ b.aR))).bf⟩
def Vu (s:L8):aX Tryz.prog 131 [str s,str [32]] w λv f=>∃x:Nat×Nat×Nat,v=.func (.func 273) #[] #[aC x.1,aC x.2.1,aC x.2.2]/\True/\cO noB (dx (blk x.1 [str [32]] 9) (dx (blk x.2.1 [str s] 9) (blk x.2.2 [I 0] 3))) w f:=by
 have H:=Sep.aI w;refine dn Tryz.func131 ?_;refine V3 ?_;refine aO (Vt s) rfl rfl (λg i e=>?_);obtain⟨x,rfl,_,k,F,d,h⟩:=e;have a:=H.new k d (λb c=>(h b c).resolve_left id);refine V1 ?_;exact⟨x,rfl,trivial,a.bf⟩
def Vw (l:L8):aX Tryz.prog 130 [str l,str [32]] w λv h=>v=I ((l.count 32:Nat):Int)/\w=h:=
 lN (Tryz.strings_Count_one ⟨l.toArray⟩ 32 w)
theorem abX (s:L8) (hl:s.length<=1000000\/1048576<s.length) (e:s.length<=1000000000) (V:gK w):aX Tryz.prog 82 [str s] w λv w'=>∃x,v=.tuple #[x,I (fE s).2]/\True/\cO noB (aY 41 3 aQ x (fE s).1) w w':=by
  have H:=Sep.aI w;obtain⟨r,ay⟩: ∃r,r=fE s:=⟨_,rfl⟩;rw[<-ay];unfold fE at ay;refine agD Tryz.func82 ?_;refine Az (λA w2 H2 k1=>?_);refine Az (λC w4 H4 k3=>?_);refine Sz (λQ=>?_) (λQ=>?_)
  . rw[zac (.inl oM)]at ay
    refine Uz (λwa Ha=>?_);refine Uz (λwb L=>?_);refine Qn (Rs (Ga (h:=?_)));exact⟨[.slice none 0 0,I 5],Vr (L.obj At1) (L.obj At0),.slice none 0 0,by rw[ay];rfl,trivial,by rw[ay];exact(Sep.iX L 41 3 aQ).first.bf⟩
  have m:s.length<=1000000:=oM;have hcl:=Uq s 32;refine V1 ?_;refine fF (Vw s) (h:=?_);refine Cz (λIe=>?_) (λIe=>?_)
  . rw[zac (.inr oM)]at ay
    refine Uz (λwc Hc=>?_);refine Uz (λwd M=>?_);refine Qn (Rs (Ga (h:=?_)));exact⟨[.slice none 0 0,I 5],Vr (M.obj At1) (M.obj At0),.slice none 0 0,by rw[ay];rfl,trivial,by rw[ay];exact(Sep.iX M 41 3 aQ).first.bf⟩
  have If:s.count 32<64:=oM;rw[zab oM]at ay;refine Cz (λO=>?_) (λO=>?_)
  . rw[zac O]at ay
    refine Uz (λwe He=>?_);refine Uz (λwf N=>?_);refine Qn (Rs (Ga (h:=?_)));exact⟨[.slice none 0 0,I 0],Vr (N.obj At1) (N.obj At0),.slice none 0 0,by rw[ay];rfl,trivial,by rw[ay];exact(Sep.iX N 41 3 aQ).first.bf⟩
  rw[zab O]at ay;refine Az (λi wg Hg ka=>?_);refine V1 ?_;refine aO (Vu s) rfl rfl (λv' wh hv=>?_);obtain⟨⟨bP,bS,bV⟩,rfl,_,n,F1,hq,q⟩:=hv;dsimp only at hq;have Hh:=Hg.new n hq (λb hb=>(q b hb).resolve_left id);refine V0 ?_;have hcs:=xZ 32 s
  have HJ:Mw.Sep w noB (ajs A C i []::[blk bP [str [32]] 9,blk bS [str s] 9,blk bV [I 0] 3]) wh:=by
    have j:=(Sep.iX Hh 41 3 aQ).aR;have h4:=Sep.tZ (p:=λv=>dx (blk i [v] 29) (aY 41 3 aQ v [])) (.slice none 0 0) (Sep.aZ j);have h7:=Sep.bundle (l:=[jH (∀y∈([]:List (L8)),tF (gB y) y=true),_,_,_]) (rs:=[_]) (Sep.jY (λy z=>zas z zal) h4.aR.bB);exact h7.aJ.bW.aJ.bW.bB.bB.aiW
  refine QZ (gf:=273) (lb:=[aC bP,aC bS,aC bV]) str (dK 32 s) (ajs A C i) (amX A C) _ HJ rfl rfl ?_ ?_ ?_ ?_
  . intro l D ro rb pre x Fr W c K
    have hxm:x∈dK 32 s:=c.subset (zck pre (zaw.2 rfl));have hxl:x.length<=1000000:=zcl (Vs s x hxm) m;have hpl:pre.length+1<=64:=by have:=c.length_le;rw[zad,zaf]at this;omega
    have o:(pre.map gB).length=pre.length:=zae _;have P:(pre++[x]).map gB=pre.map gB++[gB x]:=by rw[zan];rfl
    refine O1 ?_;refine yj (qO ?_);refine⟨[],K,λWB g=>?_⟩;have f:Mw.Sep w noB (obj l rb::obj D (.deferred (some []))::ajs A C i pre::Fr) WB:=g;replace f:=(f.aR).parts;obtain⟨a,F⟩:=f.ru;obtain⟨v4,G⟩:=(Sep.aR F).ex0;replace g:=G.bW;obtain⟨B4,cb,rfl,X,T⟩:=Sep.bX g At1;refine V1 ?_;refine Wv g (abW x hxl (V.aK g.au)) (h:=λwi Hi kb=>?_);refine Az (λb6 wj Hj kc=>?_);refine Tz (λwk Hk=>?_);refine Kz (X3 (gB x) (xJ x) (V.aK Hk.au).utf) (λwl Hl kd=>?_);refine V2 ?_;refine eO (t:=25) rfl (λS=>?_) (λS=>?_)
    . have k:tF (gB x) x=false:=by
        have j:=S;unfold tF
        revert j
        cases eX (gB x)<;>simp
      refine Uz (λwm Hm=>?_);refine Uz (λwn Hn=>?_);refine Qn (Rs (uR (Ar ?_)));exact(Sep.bundle (l:=[jH (tF (gB x) x=false),_,_]) (rs:=[_,_]) (Sep.jY k ((Hn.jq.jq.jq.jq).firsts (l:=[_,_,_,_])))).F4
    have e:eX (gB x)=true:=by have j:=S;revert j;cases eX (gB x)<;>simp
    refine Kz (U3 (gB x) e (xJ x) (V.aK Hl.au)) (λwo Ho ke=>?_);refine Cz (λR=>?_) (λR=>?_)
    . have k:tF (gB x) x=false:=by
        unfold tF;rw[e,zam (show ¬iE (gB x)=x from R)];rfl
      refine Uz (λwp Hp=>?_);refine Uz (λwq Hq=>?_);refine Qn (Rs (uR (Ar ?_)));exact(Sep.bundle (l:=[jH (tF (gB x) x=false),_,_]) (rs:=[_,_]) (Sep.jY k ((Hq.jq.jq.jq.jq).firsts (l:=[_,_,_,_])))).F4
    have Z:tF (gB x) x=true:=JL.2 ⟨e,zcd.1 R⟩;refine V2 ?_;refine Bs Ho ([gB x].flatMap aQ) (λbs wr Hr kf=>?_);refine eH Hr (news:=[gB x]) At2 (by rw[o];unfold maxLen;simp;omega) (by rw[o];show(pre.length+1)*32<=_;omega) (by intro u hu;simp only[zbi,zfa,aQ,zbt,zax,zal,or_false]at hu;rcases hu with rfl | rfl | rfl<;>rfl) (h:=?_);intro v2 ws Hs;rw[<-P]at Hs;obtain⟨B2,c2,rfl,hc2,hB2⟩:=Sep.bX Hs At2;refine Uz (λwt Ht=>?_);refine yj (xC (DZ ?_));have h2:=Sep.tZ (p:=λv=>dx (blk i [v] 29) (aY 41 3 aQ v ((pre++[x]).map gB))) _ (Sep.aZ Ht.bN)
    have Y: ∀y∈pre++[x],tF (gB y) y=true:=by
      intro y z
      rcases zbh.1 z with h | h
      . exact a y h
      rw[zaw.1 h];exact Z
    exact(Sep.bundle (l:=[jH (∀y∈pre++[x],tF (gB y) y=true),_,_,_]) (Sep.jY Y h2.F4)).F4
  . intro l D ro rj W K z
    exact Yo m K z
  rotate_left 1
  . intro D W pre x c HD
    obtain⟨k,J⟩:=((HD.aJ).parts).ru;have hr:=Ke (c.subset (zck pre (zaw.2 rfl))) k;rw[hr]at ay;exact uR (ER (zA J At2 (λw1 E=>⟨[.slice none 0 0,I 4],Vr (E.obj At0) (E.obj At1),.slice none 0 0,by rw[ay];rfl,trivial,by rw[ay];exact(Sep.iX E 41 3 aQ).first.bf⟩)))
  intro D wu d;have d:=(d.aJ).parts;obtain⟨a,d⟩:=d.ru;obtain⟨v4,d⟩:=(Sep.aR d).ex0;have d:=d.bW;obtain⟨B4,cb,rfl,X,T⟩:=Sep.bX d At1;rw[Ka a]at ay;refine Uz (λwv Hv=>?_);refine Uz (λww Hw=>?_);refine Qn (Lu (zA Hw At4 (hR:=λwx Hx=>?_)));exact⟨[_,I 0],Vr (Hx.obj At2) (Hx.obj At3),_,by rw[ay];rfl,trivial,by rw[ay];exact Hx.aJ.first.bf⟩
end
end
end Go.Proofs.Mw
