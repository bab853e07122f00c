/-
 A range over a map;the program's escapes in literals,walked.
-/
import Derived.Test.YtbkjpdboaclopaaGreatDoorNd14
set_option linter.all false
set_option maxRecDepth 4000
namespace Go.Proofs.Mw
variable {b bm clock d:Nat} {x:Od} {es:Array MapEntry}
open Go.RowKit
section
variable {P:Program} {r:Option Nat} {n:Nat} {ops:AO} {Q:Post} {rest:LO} {σ:St} {w w0:Wd} {S:NP} {rs:List HP} {put:HP->List HP} {ty:Td} {pos:String} {after:Array Edge}
def adR {T k e:Td} [ht:IsMap P T k e] (H:Sep w0 S rs w) (hb:w.heap[bm]? =some (.map es clock)) (hx:evF σ x=.map (some bm):=by exact rfl) (hd:Nat.blt d n=true:=by exact rfl)
    (h: ∀b w',Sep w0 S (obj b (.mapIter (some bm) clock #[] clock)::rs) w'->FL P r n ops Q rest (upd σ d (.pointer (some ⟨b,0,none⟩))) w'):FL P r n ops Q (⟨some d,.range T x,ty,pos,after,none⟩::rest) σ w:=
  dD (λ_ _ _ _=>by
    have:=run_range_map (P:=P) w T k e bm es clock ht.und hb;simp only[execOp,hx,zbj,this,zan,zbl]) hd (h _ _ (H.alloc _))
def agH {since c0:Nat} {seen:Array Nat} (H:Sep w0 S rs w) (hat:At rs (obj b (.mapIter (some bm) since seen c0)) put) (hb:w.heap[bm]? =some (.map es clock)) (hold: ∀x∈es.toList,x.born<since) (hsc:since<=c0)
    (h1: ∀en,en∈(leftOf es seen).toList->∀w',Sep w0 S (put (obj b (.mapIter (some bm) since (seen.push en.born) clock))) w'->FL P r n ops Q rest (upd σ d (.tuple #[.bool true,en.key,en.val])) w')
    (h2:(leftOf es seen).size=0->FL P r n ops Q rest (upd σ d (.tuple #[.bool false])) w) (hx:evF σ x=.pointer (some ⟨b,0,none⟩):=by exact rfl) (hd:Nat.blt d n=true:=by exact rfl):
    FL P r n ops Q (⟨some d,.next x false,ty,pos,after,none⟩::rest) σ w:=by
  have hr:=H.obj hat
  rcases run_next_at (P:=P) w ty b bm since c0 seen es clock hr hb hold hsc with⟨h0,iw⟩ | ⟨en,Fe,k,Bn,iw⟩
  . exact dD (λ_ _ _ _=>by simp only[execOp,hx,zbj,iw,zan,zbl]) hd (h2 h0)
  have jH:Kept noB w k:=by
    rcases Bn with rfl | rfl
    . exact Kept.refl _ _
    exact Kept.drew w
  have I:=H.keep jH;have aX:=mg (I.obj hat);refine dD (w':=Go.ChangeMaps.setBlock k b (.mapIter (some bm) since (seen.push en.born) clock)) (λ_ _ _ _=>by simp only[execOp,hx,zbj,iw,zan,zbl]) hd (h1 en Fe _ (I.setObj hat ⟨rfl,rfl,rfl,by simp[Go.ChangeMaps.setBlock],λj hj iJ=>?_⟩ (by simp[Go.ChangeMaps.setBlock,aX])));simp only[Go.ChangeMaps.setBlock,zbx];rw[zaa (λe=>iJ e.symm)]
def Gives.amI {ρ:Od->Value} {since:Nat} {seen:Array Nat} {en:MapEntry} (hx:ρ x=.pointer (some ⟨b,0,none⟩))
    (hr:w.heap[b]? =some (.mapIter (some bm) since (seen.push en.born) clock)) (hb:w.heap[bm]? =some (.map es clock)) (he:en∈es.toList) (hn:(es.toList.map (·.born)).Nodup):Gives P ρ (.entry x) ty w (.tuple #[en.key,en.val]) w:=λ_ _ _ _=>by
  have:=run_entry_at (P:=P) w b bm since seen es clock en hr hb he hn;simp only[execOp,hx,zbj,this,zan,zbl]
end
variable {c:UInt8} {F:NP}
open Go.Lib
section
attribute [local irreducible] FW FL FG FGn jJ jO fC lJ Qfn Gives
def KG (c:UInt8):Option UInt8:=if c=34 then some 34 else if c=92 then some 92 else if c=98 then some 8 else if c=102 then some 12 else if c=110 then some 10 else if c=114 then some 13 else if c=116 then some 9 else none
def WR: ∀x∈iD.toList,x.born<7:=by
 intro x hx;simp only[iD,zbb,zam,or_false]at hx
 rcases hx with rfl | rfl | rfl | rfl | rfl | rfl | rfl<;>exact dC
def FT:(iD.toList.map (·.born)).Nodup:=by
 show [0,1,2,3,4,5,6].Nodup
 decide
def ZM {x:MapEntry} (hx:x∈iD.toList): ∃k v:UInt8,x.key=.int .i32 (k.toNat:Int)/\x.val=B v/\k.toNat<128/\∀c:UInt8,c=v->KG c=some k:=by
 simp only[iD,zbb,zam,or_false]at hx
 rcases hx with rfl | rfl | rfl | rfl | rfl | rfl | rfl
 .exact⟨34,34,rfl,rfl,dC,λc h=>by subst h;rfl⟩
 .exact⟨92,92,rfl,rfl,dC,λc h=>by subst h;rfl⟩
 .exact⟨8,98,rfl,rfl,dC,λc h=>by subst h;rfl⟩
 .exact⟨12,102,rfl,rfl,dC,λc h=>by subst h;rfl⟩
 .exact⟨10,110,rfl,rfl,dC,λc h=>by subst h;rfl⟩
 .exact⟨13,114,rfl,rfl,dC,λc h=>by subst h;rfl⟩
 exact⟨9,116,rfl,rfl,dC,λc h=>by subst h;rfl⟩
def adS (h: ∀x∈iD.toList,x.val≠B c):KG c=none:=by
 have g: ∀(k:Int) (v:UInt8) (b:Nat),zT k (v.toNat:Int) b∈iD.toList->c≠v:=λk v b hm e=>h _ hm (by rw[e];rfl);unfold KG;rw[zaa (g 34 34 0 (by simp[iD])),zaa (g 92 92 1 (by simp[iD])),zaa (g 8 98 2 (by simp[iD])),zaa (g 12 102 3 (by simp[iD])),zaa (g 10 110 4 (by simp[iD])),zaa (g 13 114 5 (by simp[iD])),zaa (g 9 116 6 (by simp[iD]))]
def aoP {a b:UInt8} (h:B a=B b):a=b:=by
 injection h with _ h
 exact UInt8.toNat_inj.1 oM
def adT (l:L8) (n:Nat) (g:Nat×Nat×Int):L8×Nat×Int:=(if g.2.2≠0 then []else LH (65536+1024*((n:Int)-55296)+g.1-56320),g.2.1,g.2.2)
def WS (l:L8) (n:Nat) (a:Nat×Int):L8×Nat×Int:=adT l n (nZ l (jX l a.1 a.2 117).1 (jX l a.1 a.2 117).2 true)
def ZN (l:L8) (h:Nat×Nat×Int):L8×Nat×Int:=
 if 55296<=h.1/\h.1<56320 then WS l h.1 (jX l h.2.1 h.2.2 92)else(if h.2.2≠0 then []else LH (h.1:Int),h.2.1,h.2.2)
def QI (l:L8) (t:UInt8×Nat×Int):L8×Nat×Int:=
 if t.1=47 then([47],t.2.1,t.2.2)
 else match KG t.1 with
  | some k=>([k],t.2.1,t.2.2)
  | none=>ZN l (nZ l t.2.1 (if t.1=117 then t.2.2 else jf t.2.2 41) false)
def Bg (l:L8) (at_:Nat) (e:Int):L8×Nat×Int:=QI l (dF l at_ e)
def ab6 (l:L8) (at_:Nat) (e:Int) (s:Bool):(nZ l at_ e s).1<65536:=by
 have h0:=u7 l at_ e;have h1:=u7 l (eH l at_ e).2.1 (if s=true/\(eH l at_ e).1≠13 then jf (eH l at_ e).2.2 41 else(eH l at_ e).2.2);unfold nZ;dsimp only;have h2: ∀a b,(eH l a b).1<16:=λa b=>u7 l a b
 generalize hg:eH l at_ e=d0 at *
 have a1:=h2 d0.2.1 (if s=true/\d0.1≠13 then jf d0.2.2 41 else d0.2.2)
 generalize eH l d0.2.1 (if s=true/\d0.1≠13 then jf d0.2.2 41 else d0.2.2)=d1 at *
 have a2:=h2 d1.2.1 (if s≠decide (220<=16*d0.1+d1.1/\16*d0.1+d1.1<=223)then jf d1.2.2 41 else d1.2.2)
 generalize eH l d1.2.1 (if s≠decide (220<=16*d0.1+d1.1/\16*d0.1+d1.1<=223)then jf d1.2.2 41 else d1.2.2)=d2 at *
 have a3:=h2 d2.2.1 d2.2.2
 generalize eH l d2.2.1 d2.2.2=d3 at *
 omega
section
variable {w:Wd} {l:L8}
theorem ZO {b at_:Nat} {e:Int} (hp:(tH b l at_ e).ok F w) (hl:l.length<=1000000) (ha:at_<=l.length):aQ Tryz.prog 332 [av b] w λr w'=>r=str (Bg l at_ e).1/\Turn F (tH b l (Bg l at_ e).2.1 (Bg l at_ e).2.2) w w':=by
 have H:=Sep.bW hp;obtain⟨res,ak⟩: ∃res,res=Bg l at_ e:=⟨_,rfl⟩;rw[<-ak];unfold Bg QI ZN WS adT at ak;have Zh:=take_at (e:=e) ha;obtain⟨t,ht⟩: ∃t,t=dF l at_ e:=⟨_,rfl⟩;rw[<-ht]at Zh ak;have Bj:=t.1.toNat_lt;refine dh Tryz.func332 ?_;refine V2 ?_;obtain⟨F0,eO,gQ,aK⟩:=H.focus At0;refine aL (MW (l:=l) eO hl ha) rfl rfl (λv' _ hv=>?_);obtain⟨rfl,cK,F1,hq,hs⟩:=hv;have S:=aK _ F1 _ cK hq hs;rw[<-ht];rw[<-ht]at S;refine Cz (λI=>?_) (λI=>?_)
 .have h47:t.1=47:=UInt8.toNat_inj.1 (by have h:=I;show t.1.toNat=47;omega)
  rw[zac h47]at ak;refine V1 ?_;exact⟨by rw[ak];rfl,by rw[ak];exact S.turn⟩
 rw[zaa (λh=>by rw[h]at I;exact I rfl)]at ak;refine V0 ?_;refine aL (WE) rfl rfl (λv' _ hv=>?_);obtain⟨m,rfl,_,cK,F1,qD,iC⟩:=hv;have I:=S.new cK qD (λb hb=>(iC b hb).resolve_left id);refine adR I (I.obj At0) (h:=λk _ I=>?_);refine V0 ?_;refine aI (λ_:Array Nat×Nat=>[(0,av b),(3,B t.1),(12,.pointer (some ⟨k,0,none⟩))]) (λx w'=>(7<=x.2/\∀y∈iD.toList,x.1.contains y.born=true->y.val≠B t.1)/\Sep w F [obj k (.mapIter (some m) 7 x.1 x.2),obj m (.map iD 7),tH b l t.2.1 t.2.2] w') (λx _=>(leftOf iD x.1).size) (#[],7) tR ⟨⟨zbi _,λy _ hy=>by simp at hy⟩,I⟩ (λx τ _ hI=>?_);obtain⟨seen,c0⟩:=x;obtain⟨⟨I,ai5⟩,S⟩:=hI;dsimp only at I ai5 S;refine Lp ?_;refine Sr (agH S At0 (S.obj At1) WR I (h1:=λen alk _ I=>?_) (h2:=λalk=>?_))
 .obtain⟨uK,hns⟩:=mem_left alk
  obtain⟨kk,vv,nW,hva,auh,hbk⟩:=ZM uK;have arR:=left_shrinks iD seen en alk;refine V1 ?_;refine Vv (Gives.amI rfl (I.obj At0) (I.obj At1) uK FT) ?_;rw[nW,hva];refine Cz (λf=>?_) (λf=>?_)
  .have hvt:vv=t.1:=UInt8.toNat_inj.1 (by have h:=f;omega)
   rw[hbk t.1 hvt.symm]at ak;dsimp only at ak;refine V1 ?_;refine Vv (Gives.ah1 rfl) ?_;rw[TM kk.toNat oM oM,show encodeRune (kk.toNat:Int)=[kk]from by unfold encodeRune;rw[encodeRuneZ_one oM oM];simp];refine V1 ?_;exact⟨by rw[ak];rfl,by rw[ak];exact(I.aO).firsts (l:=[_]).turn⟩
  have hvt:vv≠t.1:=λh=>f (by rw[h]);refine V0 ?_;exact aj (seen.push en.born,7) tR ⟨⟨zbi _,λy hy hyc=>by
  rw[contains_push]at hyc;cases hsy:seen.contains y.born with
  | true=>exact ai5 y hy hsy
  | false=>
   rw[hsy,Bool.false_or,beq_iff_eq]at hyc;have:=born_inj FT hy uK hyc;rw[this,hva];exact λh=>hvt (aoP h)⟩,I⟩ arR
 have jN:=all_seen iD seen alk;have hbn:=adS (λx hx=>ai5 x hx (jN x hx));rw[hbn]at ak;dsimp only at ak;obtain⟨e1,Lj⟩: ∃e1,e1=if t.1=117 then t.2.2 else jf t.2.2 41:=⟨_,rfl⟩
 rw[<-Lj]at ak;have hhl:=ab6 l t.2.1 e1 false;have hha:=TQ (e:=e1) (s:=false) Zh;obtain⟨h,hh⟩: ∃h,h=nZ l t.2.1 e1 false:=⟨_,rfl⟩;rw[<-hh]at ak hhl hha;refine Vx ?_;refine Qn (Bo (D7 rfl ?_));refine Tx (Jd (Bp (Je (iK (dB (λ_:Unit=>[(0,av b)]) (λ_ w'=>Sep w F [tH b l t.2.1 e1] w') ?_ ?_)))))
 .refine Cz (λf=>?_) (λf=>?_)
  .have Y6:jf t.2.2 41=e1:=by rw[Lj,zaa (λh=>f (by rw[h];rfl))]
   refine V1 ?_;obtain⟨F0,eO,gQ,aK⟩:=S.focus At2;refine aL (oN (l:=l) 41 eO) rfl rfl (λv' _ hv=>?_);obtain⟨rfl,cK,F1,hq,hs⟩:=hv;have I:=aK _ F1 _ cK hq hs;refine V0 ?_;rw[Y6]at I;exact au () tR ((I.aO).firsts (l:=[_]))
  have Y6:t.2.2=e1:=by rw[Lj,zac (UInt8.toNat_inj.1 (by have h:=f;show t.1.toNat=117;omega))]
  refine V0 ?_;rw[Y6]at S;exact au () tR ((S.aO).firsts (l:=[_]))
 intro _ τ I I;refine Lp ?_;refine V1 ?_;obtain⟨F0,eO,gQ,aK⟩:=I.focus At0;refine aL (WL (l:=l) false eO hl Zh) rfl rfl (λv' _ hv=>?_);obtain⟨rfl,cK,F1,hq,hs⟩:=hv;have I:=aK _ F1 _ cK hq hs;rw[<-hh];rw[<-hh]at I;refine Am ?_;refine Qn (dB (λz:Int×Nat×Int=>[(0,av b),(6,I32 z.1)]) (λz w'=>res=(if z.2.2≠0 then []else LH z.1,z.2.1,z.2.2)/\Sep w F [tH b l z.2.1 z.2.2] w') ?_ ?_)
 .refine Sz (λf=>?_) (λf=>?_)
  .have hge:=f
   refine Cz (λS=>?_) (λS=>?_)
   .have Fh:55296<=h.1/\h.1<56320:=by have h2:=S;omega
    rw[zac Fh]at ak;have hwa:=FR (c:=92) (e:=h.2.2) hha;obtain⟨a,haa⟩: ∃a,a=jX l h.2.1 h.2.2 92:=⟨_,rfl⟩;rw[<-haa]at ak hwa;have hwb:=FR (c:=117) (e:=a.2) hwa;obtain⟨d,hdd⟩: ∃d,d=jX l a.1 a.2 117:=⟨_,rfl⟩;rw[<-hdd]at ak hwb;have Kt:=ab6 l d.1 d.2 true;obtain⟨g,hgg⟩: ∃g,g=nZ l d.1 d.2 true:=⟨_,rfl⟩;rw[<-hgg]at ak Kt;refine V1 ?_;obtain⟨F0,eO,gQ,aK⟩:=I.focus At0;refine aL (MX (l:=l) 92 eO hl hha) rfl rfl (λv' _ hv=>?_);obtain⟨rfl,cK,F1,hq,hs⟩:=hv;have i:=aK _ F1 _ cK hq hs;rw[<-haa]at i;refine V1 ?_;obtain⟨F0,eO,gQ,aK⟩:=i.focus At0;refine aL (MX (l:=l) 117 eO hl hwa) rfl rfl (λv' _ hv=>?_);obtain⟨rfl,cK,F1,hq,hs⟩:=hv;have i:=aK _ F1 _ cK hq hs;rw[<-hdd]at i;refine V1 ?_;refine Vv (Gives.ano (c:=(h.1:Int)-55296) rfl rfl (by rw[IntKind.wrap_i32];omega)) ?_;refine Vv (Gives.agA (c:=1024*((h.1:Int)-55296)) rfl rfl oM (by show IntKind.i32.wrap (((h.1:Int)-55296)*1024)=_;rw[IntKind.wrap_i32];omega)) (Vv (Gives.abp (c:=65536+1024*((h.1:Int)-55296)) rfl rfl (by rw[IntKind.wrap_i32];omega)) ?_);refine Mv ?_;obtain⟨F0,eO,gQ,aK⟩:=i.focus At0;refine aL (WL (l:=l) true eO hl hwb) rfl rfl (λv' _ hv=>?_);obtain⟨rfl,cK,F1,hq,hs⟩:=hv;have i:=aK _ F1 _ cK hq hs;rw[<-hgg];rw[<-hgg]at i;refine Vv (Gives.abp (c:=65536+1024*((h.1:Int)-55296)+g.1) rfl rfl (by rw[IntKind.wrap_i32];omega)) ?_;refine Vv (Gives.ano (c:=65536+1024*((h.1:Int)-55296)+g.1-56320) rfl rfl (by rw[IntKind.wrap_i32];omega)) ?_
    refine V1 ?_;exact au (65536+1024*((h.1:Int)-55296)+g.1-56320,g.2.1,g.2.2) tR ⟨ak,i⟩
   have mE: ¬(55296<=h.1/\h.1<56320):=by have h2:=S;omega
   rw[zaa mE]at ak;refine V0 ?_;exact au ((h.1:Int),h.2.1,h.2.2) tR ⟨ak,I⟩
  have mE: ¬(55296<=h.1/\h.1<56320):=by have h2:=f;omega
  rw[zaa mE]at ak;refine V1 ?_;exact au ((h.1:Int),h.2.1,h.2.2) tR ⟨ak,I⟩
 rintro⟨n2,a2,e2⟩ τ i ⟨Vp,i⟩;dsimp only at Vp i;refine Lp ?_;refine Cz (λS=>?_) (λS=>?_)
 .rw[zac S]at Vp
  refine V1 ?_;exact⟨by rw[Vp];rfl,by rw[Vp];exact i.turn⟩
 rw[zaa S]at Vp;refine V3 ?_;exact⟨by rw[Vp];rfl,by rw[Vp];exact i.turn⟩
end
end
section
variable {P:Program} {r:Option Nat} {n:Nat} {ops:AO} {Q:Post} {rest:LO} {σ:St} {w w0:Wd} {S:NP} {rs:List HP} {put:HP->List HP} {ty:Td} {pos:String} {after:Array Edge}
def WT {y:Od} {t u e:Td} [hs:dn P t e] [hu:lX P u] [hc:Cells P e 1 1] [hz:Zero P e (.int .u8 0)]
    (H:Sep w0 S rs w) (hat:At rs (mD e (.slice none 0 0) []) put) (hx:evF σ x=.slice none 0 0:=by exact rfl) (hy:evF σ y=str []:=by exact rfl) (hd:Nat.blt d n=true:=by exact rfl)
    (h: ∀w',Sep w0 S (put (mD e (.slice none 0 0) [])) w'->FL P r n ops Q rest (upd σ d (.slice none 0 0)) w'):
    FL P r n ops Q (⟨some d,.call {callee:=.builtin .append,args:= #[x,y],argTypes:= #[t,u]},ty,pos,after,none⟩::rest) σ w:=by
  obtain⟨F,hp,_,_⟩:=H.focus hat;obtain⟨i,hi,qE⟩:=zbc.1 hc.size;simp only[Prod.mk.injEq]at qE
  have xq:i.zero=some (.int .u8 0):=by
    have:=hz.run w;simp[zeroValue,typeInfo,hi]at this;cases hq:i.zero with
    | none=>simp[hq]at this
    | some u=>simp[hq]at this;rw[this]
  obtain⟨v',w',iw,h1,h2,h3⟩:=Lib.run_append_own_string (P:=P) w 0 t u ty e i hs.und hu.und hi xq qE.1 qE.2 (.slice none 0 0) 0 [] hp.1 ⟨#[]⟩ dC dC (zai _);have hv:=h3.2 ⟨rfl,rfl⟩;subst hv;refine dD (v:=.slice none 0 0) (w':=w') (λ_ _ _ _=>?_) hd (h w' (H.Dp hat h2 h1 (.inl rfl)));have hrun':(Builtin.append_ #[t,u] ty #[.slice none 0 0,.string ⟨#[]⟩]).run P w=.ok (.slice none 0 0) w':=iw;simp only[execOp,resolve,invoke,builtin,zbj,zbl,zan,zce,zav,zci,hx,hy,str,hrun']
end
variable {e:Int} {a i:Nat} {l:L8}
section
attribute [local irreducible] FW FL FG FGn jJ jO fC lJ Qfn Gives
section
variable {w:Wd} {l:L8}
def Lv {news:L8} (iJ:l++news≠[]) (hp:(xB b l).ok F w) (hl:l.length+news.length<=100000000):aQ Tryz.prog 147 [av b,str news] w λr w'=>r=.tuple #[I news.length,.nilIface]/\Turn F (xB b (l++news)) w w':=by
 obtain⟨a,v,ha,H⟩:=Sep.MP (Sep.bW hp);refine bU Tryz.func147 ?_;refine V3 ?_;obtain⟨F0,eO,gQ,aK⟩:=H.focus At0;refine aL (BA ha.1 eO) rfl rfl (λv' _ hv=>?_);obtain⟨rfl,cK,F1,hq,hs⟩:=hv;have k:=aK _ F1 _ cK hq hs;refine V6 ?_;refine OM k (news:=news) At1 oM (h:=?_);intro v2 k k;obtain⟨A2,c2,rfl,_⟩:=Sep.xQ k At1;refine Uz (λ_ k=>?_);refine V4 ?_;exact⟨rfl,(Sep.QD ⟨.inr rfl,λe=>zas e iJ⟩ k).turn⟩
def LA (hp:(xB b []).ok F w):aQ Tryz.prog 147 [av b,str []] w λr w'=>r=.tuple #[I 0,.nilIface]/\Turn F (xB b []) w w':=by
 obtain⟨a,v,ha,H⟩:=Sep.MP (Sep.bW hp);have hv:=ha.2 rfl;subst hv;refine bU Tryz.func147 ?_;refine V3 ?_;obtain⟨F0,eO,gQ,aK⟩:=H.focus At0;refine aL (BA ha.1 eO) rfl rfl (λv' w5 hv=>?_);obtain⟨rfl,cK,F1,hq,hs⟩:=hv;have H5:=aK _ F1 _ cK hq hs;refine V6 ?_;refine WT H5 At1 (h:=λwa Ha=>?_);refine Uz (λwb Hb=>?_);refine V4 ?_;exact⟨rfl,(Sep.QD ⟨.inr rfl,λ_=>rfl⟩ Hb).turn⟩
def tJ {l news:L8} (hp:(xB b l).ok F w) (hl:l.length+news.length<=100000000):aQ Tryz.prog 147 [av b,str news] w λr w'=>r=.tuple #[I news.length,.nilIface]/\Turn F (xB b (l++news)) w w':=by
 by_cases h:l++news=[]
 .obtain⟨rfl,rfl⟩:=List.append_eq_nil_iff.1 h
  exact LA hp
 exact Lv h hp hl
end
section
def og (e:Int):jf e 41≠0:=by
 unfold jf
 split
 .decide
 assumption
def MZ (h:e≠0):dF l a e=(0,a,e):=zac h
def yw (h:e≠0):(eH l a e).2.2≠0:=by
 unfold eH;rw[MZ h];show(jf e 41)≠0
 exact og e
def TU {p:Prop} [Decidable p] (h:e≠0):(if p then jf e 41 else e)≠0:=by
 split
 .exact og e
 exact h
def aoQ (h:e≠0):(jX l a e c).2≠0:=by
 unfold jX;rw[MZ h];dsimp only
 split
 .exact h
 exact og e
def agI {a:Nat} {s:Bool} (h:e≠0):(nZ l a e s).2.2≠0:=by
 unfold nZ;exact yw (yw (TU (yw (TU (yw h)))))
def FU (ha:a<=l.length) (h:l[a]? =none):(eH l a 0).2.2≠0:=by
 have :a=l.length:=by have:=zfy.1 h;omega
 unfold eH dF;rw[zaa sM,zac this];show jf 3 41≠0
 exact og 3
def yV (h:l[a]? =some c):dF l a 0=(c,a+1,0):=by
 have:=(zax.1 h).1;unfold dF;rw[zaa sM,zaa oM,zaz,h];rfl
def Mc (h:l[a]? =some c) (hd:nS c=none):(eH l a 0).2.2≠0:=by
 unfold eH;rw[yV h];dsimp only;rw[hd];exact og 0
def TV (h:l[a]? =some c) (hd:nS c=some d):eH l a 0=(d,a+1,0):=by
 unfold eH;rw[yV h];dsimp only;rw[hd]
def WU {l:L8} {a:Nat} {s:Bool} (ha:a<=l.length):((sV (l.drop a) s).2=0->nZ l a 0 s=((sV (l.drop a) s).1,a+4,0))/\((sV (l.drop a) s).2≠0->(nZ l a 0 s).2.2≠0):=by
 unfold sV;simp only[zcj,zfb];unfold nZ;cases h0:l[a]? with
 | none=>exact⟨λh=>zas h (show ¬(3:Int)=0 from dC),λ_=>yw (yw (TU (yw (TU (FU ha h0)))))⟩
 | some c0=>
 have Jb:=(zax.1 h0).1;dsimp only;cases g0:nS c0 with
 | none=>exact⟨λh=>zas h (show ¬(41:Int)=0 from dC),λ_=>yw (yw (TU (yw (TU (Mc h0 g0)))))⟩
 | some d0=>
 rw[TV h0 g0];dsimp only
 by_cases hs:s=true/\d0≠13
 .rw[zac hs,zac hs]
  exact⟨λh=>zas h (show ¬(41:Int)=0 from dC),λ_=>yw (yw (TU (yw (og 0))))⟩
 rw[zaa hs,zaa hs];cases h1:l[a+1]? with
 | none=>exact⟨λh=>zas h (show ¬(3:Int)=0 from dC),λ_=>yw (yw (TU (FU oM h1)))⟩
 | some c1=>
 have hl1:=(zax.1 h1).1;dsimp only;cases g1:nS c1 with
 | none=>exact⟨λh=>zas h (show ¬(41:Int)=0 from dC),λ_=>yw (yw (TU (Mc h1 g1)))⟩
 | some d1=>
 rw[TV h1 g1];dsimp only
 by_cases H:s≠decide (220<=16*d0+d1/\16*d0+d1<=223)
 .rw[zac H,zac H]
  exact⟨λh=>zas h (show ¬(41:Int)=0 from dC),λ_=>yw (yw (og 0))⟩
 rw[zaa H,zaa H];cases h2:l[a+2]? with
 | none=>exact⟨λh=>zas h (show ¬(3:Int)=0 from dC),λ_=>yw (FU oM h2)⟩
 | some c2=>
 have hl2:=(zax.1 h2).1;dsimp only;cases g2:nS c2 with
 | none=>exact⟨λh=>zas h (show ¬(41:Int)=0 from dC),λ_=>yw (Mc h2 g2)⟩
 | some d2=>
 have e2:eH l (a+1+1) 0=(d2,a+1+1+1,0):=TV h2 g2;rw[e2];dsimp only;cases h3:l[a+3]? with
 | none=>exact⟨λh=>zas h (show ¬(3:Int)=0 from dC),λ_=>FU oM h3⟩
 | some c3=>
 dsimp only;cases g3:nS c3 with
 | none=>exact⟨λh=>zas h (show ¬(41:Int)=0 from dC),λ_=>Mc h3 g3⟩
 | some d3=>
 have e3:eH l (a+1+1+1) 0=(d3,a+1+1+1+1,0):=TV h3 g3;rw[e3];exact⟨λ_=>rfl,λh=>zas rfl h⟩
def agJ (r:Nat) (v:Utf8.valid (r:Int)=false):(Utf8.encode (r:Int)).data.toList=[239,191,189]:=by
 simp[Utf8.encode,v,Utf8.runeError]
def WW (r:Nat):LH (r:Int)=encodeRune (r:Int):=by
 by_cases h:r<=1114111/\(r<55296\/57343<r)
 .exact TM r h.1 h.2
 have v:Utf8.valid (r:Int)=false:=by simp[Utf8.valid];omega
 rw[FQ _ _ (agJ r v)];unfold encodeRune;rw[encodeRuneZ_bad oM];rfl
def QJ {a:Nat} (ha:a<=l.length) (h:l[a]? =none):(jX l a 0 c).2≠0:=by
 have :a=l.length:=by have:=zfy.1 h;omega
 unfold jX dF;rw[zaa sM,zac this];dsimp only
 split
 .decide
 exact og 3
def M0 {l:L8} {a:Nat} {x:UInt8} (h:l[a]? =some x) (iJ:x≠c):(jX l a 0 c).2≠0:=by
 unfold jX;rw[yV h];dsimp only;rw[zaa iJ];exact og 0
def TW {l:L8} {a:Nat} (h:l[a]? =some c):jX l a 0 c=(a+1,0):=by
 unfold jX;rw[yV h];dsimp only;rw[zac rfl]
def adU (c:UInt8):OE c=if c=47 then some 47 else KG c:=by
 unfold OE KG
 by_cases h1:c=34
 .subst h1;rfl
 by_cases h2:c=92
 .subst h2;rfl
 by_cases h3:c=47
 .subst h3;rfl
 simp only[h1,h2,h3,if_false]
def aoR:KG 0=none:=dC
def ajZ {n:Nat} {g:Nat×Nat×Int} (h:g.2.2≠0):(adT l n g).2.2≠0:=h
def amJ {n:Nat} {a:Nat×Int} (h:a.2≠0):(WS l n a).2.2≠0:=ajZ (agI (aoQ h))
def amK {h:Nat×Nat×Int} (he:h.2.2≠0):(ZN l h).2.2≠0:=by
 unfold ZN
 split
 .exact amJ (aoQ he)
 exact he
attribute [local irreducible] nZ jX sV eH jf
def agK {r:Nat} (hi:i+6<=l.length) (hr:55296<=r):((aa6 (l.drop i) r).2.2=0->WS l r (jX l (i+6) 0 92)=((aa6 (l.drop i) r).1,i+(aa6 (l.drop i) r).2.1,0))/\((aa6 (l.drop i) r).2.2≠0->(WS l r (jX l (i+6) 0 92)).2.2≠0):=by
 have hd8:(l.drop i).drop 8=l.drop (i+8):=by rw[zfx]
 unfold aa6;rw[zcj,zcj,hd8];cases h6:l[i+6]? with
 | none=>exact⟨λh=>zas h (show ¬(3:Int)=0 from dC),λ_=>amJ (QJ hi h6)⟩
 | some c6=>
 have hl6:=(zax.1 h6).1;dsimp only
 by_cases g6:c6=92
 .subst g6
  rw[zaa sM,TW h6];cases h7:l[i+7]? with
  | none=>exact⟨λh=>zas h (show ¬(3:Int)=0 from dC),λ_=>ajZ (agI (QJ (a:=i+7) oM h7))⟩
  | some c7=>
  have hl7:=(zax.1 h7).1;dsimp only
  by_cases g7:c7=117
  .subst g7
   rw[zaa sM];unfold WS;have e7:jX l (i+6+1) 0 117=(i+8,0):=TW h7;dsimp only;rw[e7];obtain⟨la,lb⟩:=WU (l:=l) (a:=i+8) (s:=true) oM
   by_cases he:(sV (l.drop (i+8)) true).2≠0
   .rw[zac he]
    exact⟨λh=>zas h he,λ_=>ajZ (lb he)⟩
   rw[zaa he];have hq:=la (zcq.1 he);dsimp only;rw[hq];refine⟨λ_=>?_,λh=>(h (by dsimp only)).elim⟩;unfold adT;dsimp only;rw[zaa sM];have e:65536+1024*((r:Int)-55296)+((sV (l.drop (i+8)) true).1:Int)-56320=((65536+1024*(r-55296)+(sV (l.drop (i+8)) true).1-56320:Nat):Int):=oM;rw[e,WW]
  rw[zac g7];exact⟨λh=>zas h (show ¬(41:Int)=0 from dC),λ_=>ajZ (agI (M0 (a:=i+7) h7 g7))⟩
 rw[zac g6];exact⟨λh=>zas h (show ¬(41:Int)=0 from dC),λ_=>amJ (M0 h6 g6)⟩
def agL {s:Bool} (h:(sV l s).2=0):4<=l.length:=by
 unfold sV at h;cases h0:l[0]? with
 | none=>rw[h0]at h;cases h
 | some c0=>
 cases h3:l[3]? with
 | some c3=>have:=(zax.1 h3).1;omega
 | none=>
  exfalso;simp only[h0,h3]at h
  repeat' split at h
  all_goals first | cases h | exact zas h dC
def aj0 (hi:i<l.length):((yE (l.drop i)).2.2=0->Bg l (i+1) 0=((yE (l.drop i)).1,i+(yE (l.drop i)).2.1,0))/\((yE (l.drop i)).2.2≠0->(Bg l (i+1) 0).2.2≠0):=by
 have G8:(l.drop i).drop 2=l.drop (i+2):=by rw[zfx]
 unfold yE Bg;rw[zcj,G8];cases h1:l[i+1]? with
 | none=>
  have e1:i+1=l.length:=by have:=zfy.1 h1;omega
  have e2:dF l (i+1) 0=(0,i+1,3):=by unfold dF;rw[zaa sM,zac e1]
  refine⟨λh=>zas h (show ¬(3:Int)=0 from dC),λ_=>?_⟩;rw[e2];unfold QI;dsimp only;rw[zaa (show ¬(0:UInt8)=47 from dC),aoR];exact amK (agI (by rw[zaa (show ¬(0:UInt8)=117 from dC)];exact og 3))
 | some c=>
 have hl1:=(zax.1 h1).1;rw[yV h1];unfold QI;dsimp only;rw[adU]
 by_cases h47:c=47
 .rw[zac h47,zac h47]
  subst h47;exact⟨λ_=>by dsimp only,λh=>(h (by dsimp only)).elim⟩
 rw[zaa h47,zaa h47];cases hb:KG c with
 | some k=>exact⟨λ_=>by dsimp only,λh=>(h (by dsimp only)).elim⟩
 | none=>
 dsimp only
 by_cases alm:c=117
 .rw[zaa (by simp[alm]),zac alm]
  obtain⟨la,lb⟩:=WU (l:=l) (a:=i+2) (s:=false) oM
  by_cases he:(sV (l.drop (i+2)) false).2≠0
  .rw[zac he]
   exact⟨λh=>zas h he,λ_=>amK (lb he)⟩
  rw[zaa he];have hh:=agL (zcq.1 he);rw[zbo]at hh;have hq:nZ l (i+1+1) 0 false=((sV (l.drop (i+2)) false).1,i+6,0):=la (zcq.1 he);rw[hq];unfold ZN;dsimp only
  generalize (sV (l.drop (i+2)) false).1=r at hq
  by_cases hr:r<55296\/56319<r
  .rw[zac hr,zaa oM,zaa sM,WW]
   exact⟨λ_=>by dsimp only,λh=>(h (by dsimp only)).elim⟩
  rw[zaa hr,zac oM];exact agK oM oM
 rw[zac alm,zaa alm];exact⟨λh=>zas h (show ¬(41:Int)=0 from dC),λ_=>amK (agI (og 0))⟩
end
section
def amL:jf 0 3=3:=rfl
def adV {l:L8}:(U6 l).1=if(jX l 0 0 34).2=0 then(qw l (jX l 0 0 34).1 []).1 else []:=by
 cases l with
 | nil=>rfl
 | cons c t=>
  by_cases h:c=34
  .subst h
   rw[TW (l:=34::t) (a:=0) rfl,zac rfl];rfl
  rw[zaa (M0 (l:=c::t) (a:=0) rfl h)];show(if c≠34 then(([],0,41):L8×Nat×Int)else sW (t.length+1) t 1 []).1=[]
  rw[zac h]
def adW {out:L8} (h:i<l.length) (hc:l.getD i 0=34):(qw l i out).1=out:=by
 rw[EY h hc.symm,zac rfl]
def aj1 {l:L8} {out:L8} (h:i<l.length) (hc:l.getD i 0=92):((Bg l (i+1) 0).2.2=0->(qw l i out).1=(qw l (Bg l (i+1) 0).2.1 (out++(Bg l (i+1) 0).1)).1)/\((Bg l (i+1) 0).2.2≠0->(qw l i out).1=[]):=by
 obtain⟨ha,hb⟩:=aj0 h;have hs:=EY (out:=out) h hc.symm;rw[zaa dC,zaa dC,zac rfl]at hs
 by_cases he:(yE (l.drop i)).2.2=0
 .have hq:=ha he
  rw[zaa (by simp[he])]at hs;rw[hs,hq];exact⟨λ_=>rfl,λh=>zas rfl h⟩
 rw[zac he]at hs;have hq:=hb he;rw[hs];exact⟨λh=>zas h hq,λ_=>rfl⟩
def adX {l:L8} {out:L8} (h:i<l.length) (h34:l.getD i 0≠34) (h92:l.getD i 0≠92):((nP l i).2.2=true->(qw l i out).1=(qw l (nP l i).2.1 (out++(nP l i).1)).1)/\((nP l i).2.2=false->(qw l i out).1=[]):=by
 have hs:=EY (out:=out) h rfl;rw[zaa h34]at hs;unfold nP
 by_cases h32:(l.getD i 0).toNat<32
 .rw[zac h32]
  rw[zac (UInt8.lt_iff_toNat_lt.2 h32)]at hs;rw[hs];exact⟨λh=>by(dsimp only at h;cases h),λ_=>rfl⟩
 rw[zaa h32];rw[zaa (λh=>h32 (UInt8.lt_iff_toNat_lt.1 h)),zaa h92]at hs;cases hn:iq (l.drop i)with
 | none=>
  rw[hn]at hs;rw[hs,zaa sM];exact⟨λh=>by(dsimp only at h;cases h),λ_=>rfl⟩
 | some p=>
  obtain⟨r,n⟩:=p;have hnp:lg (l.drop i)=(r,n):=by unfold lg;rw[hn];rfl
  rw[hn,hnp,zac sM]at hs;rw[hs];exact⟨λ_=>rfl,λh=>by(dsimp only at h;cases h)⟩
def WX (r:Int):(LH r).length<=4:=by
 unfold LH Utf8.encode;dsimp only
 repeat' split
 all_goals simp
attribute [local irreducible] nZ jX eH jf dF
def ZP {l:L8} {a:Nat} {e:Int} (ha:a<=l.length):(Bg l a e).1.length<=4/\(Bg l a e).2.1<=l.length:=by
 have ht:=take_at (e:=e) ha;unfold Bg QI
 split
 .exact⟨sM,ht⟩
 split
 .exact⟨sM,ht⟩
 have hh:=TQ (e:=if(dF l a e).1=117 then(dF l a e).2.2 else jf (dF l a e).2.2 41) (s:=false) ht
 generalize nZ l (dF l a e).2.1 (if(dF l a e).1=117 then(dF l a e).2.2 else jf (dF l a e).2.2 41) false=h at *
 unfold ZN
 split
 .refine⟨?_,TQ (FR (FR hh))⟩
  unfold WS adT;dsimp only
  split
  .simp
  exact WX _
 refine⟨?_,hh⟩;dsimp only
 split
 .simp
 exact WX _
def M4 (l:L8) (a:Nat) (e:Int):a<=(dF l a e).2.1:=by
 unfold dF
 split
 .exact zbi _
 split
 .exact zbi _
 dsimp only;omega
def Dl (l:L8) (a:Nat) (e:Int):a<=(eH l a e).2.1:=by
 unfold eH
 split<;>exact M4 l a e
def WY (l:L8) (a:Nat) (e:Int) (s:Bool):a<=(nZ l a e s).2.1:=by
 unfold nZ;exact zck (zck (zck (Dl l a e) (Dl l _ _)) (Dl l _ _)) (Dl l _ _)
def WZ (l:L8) (a:Nat) (e:Int) (c:UInt8):a<=(jX l a e c).1:=by
 unfold jX;exact M4 l a e
def aj2 {l:L8} {a:Nat} {e:Int}:a<=(Bg l a e).2.1:=by
 have ht:=M4 l a e;unfold Bg QI
 split
 .exact ht
 split
 .exact ht
 have hh:=WY l (dF l a e).2.1 (if(dF l a e).1=117 then(dF l a e).2.2 else jf (dF l a e).2.2 41) false
 generalize nZ l (dF l a e).2.1 (if(dF l a e).1=117 then(dF l a e).2.2 else jf (dF l a e).2.2 41) false=h at *
 unfold ZN
 split
 .unfold WS adT
  dsimp only;exact zck (zck (zck (zck ht hh) (WZ l _ _ _)) (WZ l _ _ _)) (WY l _ _ _)
 exact zck ht hh
def TY {l:L8} (hi:i<l.length):(nP l i).1.length<=4*((nP l i).2.1-i)/\i<=(nP l i).2.1/\(nP l i).2.1<=l.length/\((nP l i).2.2=true->i<(nP l i).2.1):=by
 unfold nP
 split
 .exact⟨sM,zbi _,dO,λh=>by cases h⟩
 split
 .rename_i r n hn
  obtain⟨_,h1,h2,_⟩:=uP hn;rw[zbo]at h2;dsimp only;rw[zah,zbo];exact⟨oM,oM,oM,λ_=>oM⟩
 exact⟨sM,zbi _,dO,λh=>by cases h⟩
section
variable {w:Wd}
theorem W9 (l:L8) (hl:l.length<=1000000) (hT:gT w):aQ Tryz.prog 283 [str l] w λv w'=>(∃n e,v=.tuple #[str (U6 l).1,I n,I e])/\Kept noB w w':=by
 have H:=Sep.aH w;obtain⟨res,ak⟩: ∃res,res=(U6 l).1:=⟨_,rfl⟩;have Y0:=ak;rw[adV]at ak;have YV:=FR (l:=l) (at_:=0) (e:=0) (c:=34) (zai _);rw[<-Y0];refine dh Tryz.func283 ?_;refine V4 ?_;refine Vb [str l,I 0,I 0] ?_;refine bB H (cs:=[str l,I 0,I 0]) rfl (h:=λb5 w7 H7 k6=>?_);refine V2 ?_;obtain⟨F0,eO,gQ,aK⟩:=H7.focus At0;refine aL (MX (l:=l) (at_:=0) (e:=0) 34 eO hl (zai _)) rfl rfl (λv' wa hv=>?_);obtain⟨rfl,cK,F1,hq,hs⟩:=hv;have Ha:=aK _ F1 _ cK hq hs;refine Az (λb6 wb Hb ka=>?_);replace Hb:=Sep.ajU Hb;refine V0 ?_;refine aI (λ_:Nat×Int×L8=>[(0,str l),(5,av b5),(6,av b6)]) (λx w'=>(x.1<=l.length/\x.2.2.length<=4*x.1/\res=if x.2.1=0 then(qw l x.1 x.2.2).1 else [])/\Sep w noB [xB b6 x.2.2,tH b5 l x.1 x.2.1] w') (λx _=>if x.2.1=0 then l.length-x.1+1 else 0) ((jX l 0 0 34).1,(jX l 0 0 34).2,[]) tR ⟨⟨YV,sM,ak⟩,Hb⟩ (λx τ wc hI=>?_);obtain⟨i,e,out⟩:=x;obtain⟨⟨hi,hol,dK⟩,Hc⟩:=hI;dsimp only at hi hol dK Hc;unfold tH at Hc;refine Lp ?_;refine Cz (λIe=>?_) (λIe=>?_)
 .have he0:e=0:=Ie
  subst he0;rw[zac rfl]at dK;refine Cz (λIf=>?_) (λIf=>?_)
  .have jG:i=l.length:=oM
   have ai7:res=[]:=by rw[dK,Ti oM]
   refine V1 ?_;obtain⟨F0,eO,gQ,aK⟩:=Hc.focus At1;refine aL (oN (l:=l) (e:=0) 3 eO) rfl rfl (λv' wd hv=>?_);obtain⟨rfl,cK,F1,hq,hs⟩:=hv;have Hd:=aK _ F1 _ cK hq hs;rw[amL]at Hd;refine V0 ?_;exact aj (i,3,out) tR ⟨⟨hi,hol,by rw[ai7];rfl⟩,Hd⟩ (by show 0<(if(0:Int)=0 then _ else _);rw[zac rfl];omega)
  have aX:i<l.length:=oM;refine Cz (λIg=>?_) (λIg=>?_)
  .have Ih:l.getD i 0=34:=UInt8.toNat_inj.1 (by have h:=Ig;show(l.getD i 0).toNat=34;omega)
   rw[adW aX Ih]at dK;refine Dz (λSa we He=>?_);refine Gm Sa 1 ?_;refine V4 ?_;obtain⟨F0,eO,gQ,aK⟩:=He.focus At0;refine p8 Sa 0 [(5,true),(4,false),(3,true),(2,true),(1,true)] rfl kR (Dj eO oM) rfl kR kR (λv' wf hv=>?_);obtain⟨rfl,cK,F1,hq,hs⟩:=hv;have Hf:=aK _ F1 _ cK hq hs;refine⟨sL,?_⟩;refine Gp Sa 6 rfl rfl (λ_=>Gives.assign rfl) (V2 ?_);exact⟨⟨_,_,by rw[dK];rfl⟩,Hf.kept⟩
  have Ih:l.getD i 0≠34:=λh=>Ig (by rw[h];rfl);refine Cz (λIi=>?_) (λIi=>?_)
  .have Ij:l.getD i 0=92:=UInt8.toNat_inj.1 (by have h:=Ii;show(l.getD i 0).toNat=92;omega)
   obtain⟨jB,qD⟩:=aj1 (out:=out) aX Ij;rw[<-dK]at jB qD;obtain⟨Fv,hb2⟩:=ZP (l:=l) (a:=i+1) (e:=0) oM;have aln:=aj2 (l:=l) (a:=i+1) (e:=0);obtain⟨q,hq⟩: ∃q,q=Bg l (i+1) 0:=⟨_,rfl⟩;rw[<-hq]at jB qD Fv hb2 aln
   have hif:res=if q.2.2=0 then(qw l q.2.1 (out++q.1)).1 else []:=by
    split
    .exact jB (by assumption)
    exact qD (by assumption)
   refine V4 ?_;refine Vc ((i+1:Nat):Int) ?_;refine Uz (λwg Hg=>?_);refine V1 ?_;obtain⟨F0,eO,gQ,aK⟩:=Hg.focus At1;refine aL (ZO (l:=l) (at_:=i+1) (e:=0) eO hl oM) rfl rfl (λv' wh hv=>?_);obtain⟨rfl,cK,F1,hq',hs⟩:=hv;have Hh:=aK _ F1 _ cK hq' hs;rw[<-hq];rw[<-hq]at Hh;obtain⟨F0,eO,gQ,aK⟩:=Hh.focus At0;refine aL (tJ eO oM) rfl rfl (λv' wi hv=>?_);obtain⟨rfl,cK,F1,hq',hs⟩:=hv;have Hi:=aK _ F1 _ cK hq' hs;refine V0 ?_;exact aj (q.2.1,q.2.2,out++q.1) tR ⟨⟨hb2,by dsimp only;rw[zad];omega,hif⟩,Hi⟩ (by dsimp only;rw[zac rfl];split<;>omega)
  have Ij:l.getD i 0≠92:=λh=>Ii (by rw[h];rfl);obtain⟨jB,qD⟩:=adX (out:=out) aX Ih Ij;rw[<-dK]at jB qD;obtain⟨Fv,hb3,hb2,aln⟩:=TY aX;obtain⟨q,hq⟩: ∃q,q=nP l i:=⟨_,rfl⟩;rw[<-hq]at jB qD Fv hb2 hb3 aln;refine V1 ?_;obtain⟨F0,eO,gQ,aK⟩:=Hc.focus At1;refine aL (adM (l:=l) (at_:=i) eO hl aX (hT.keep Hc.kept).utf) rfl rfl (λv' wj hv=>?_);obtain⟨x1,rfl,hx1,cK,F1,hq',hs⟩:=hv;have Hj:=aK _ F1 _ cK hq' hs;rw[<-hq]at hx1;rw[<-hq];rw[<-hq]at Hj
  have hif:res=if x1=0 then(qw l q.2.1 (out++q.1)).1 else []:=by
   split
   .exact jB (hx1.2 (by assumption))
   rename_i h0;cases hb:q.2.2 with
   | true=>exact zas (hx1.1 hb) h0
   | false=>exact qD hb
  have hms:(if x1=0 then l.length-q.2.1+1 else 0)<l.length-i+1:=by
   split
   .have:=aln (hx1.2 (by assumption));omega
   omega
  obtain⟨F0,eO,gQ,aK⟩:=Hj.focus At0;refine aL (tJ eO oM) rfl rfl (λv' wk hv=>?_);obtain⟨rfl,cK,F1,hq',hs⟩:=hv;have Hk:=aK _ F1 _ cK hq' hs;refine V0 ?_;exact aj (q.2.1,x1,out++q.1) tR ⟨⟨hb2,by dsimp only;rw[zad];omega,hif⟩,Hk⟩ (by dsimp only;rw[zac rfl];exact hms)
 have ai7:res=[]:=by rw[dK,zaa Ie]
 refine Dz (λSb wl Hl=>?_);refine V7 ?_;exact⟨⟨_,_,by rw[ai7];rfl⟩,Hl.kept⟩
end
end
open Go.Proofs.Tryz
def ZQ {w:L8} {k:Int} (hw:w≠[]) (h1:1<=k) (h5:k<=5) (h: ∀j:Int,1<=j->j<k->oG j≠w) (hk:oG k=w):[1,3,4,5].find? (λk:Int=>decide (oG k=w))=some k:=by
 have hd: ∀j:Int,1<=j->j<k->decide (oG j=w)=false:=λj a b=>zal (h j a b);have Pe:decide (oG k=w)=true:=zap hk
 rcases (by omega :k=1\/k=2\/k=3\/k=4\/k=5)with e | e | e | e | e<;>subst e
 .simp only[zch,Pe]
 .exact zas hk.symm hw
 .simp only[zch,hd 1 oM oM,Pe]
 .simp only[zch,hd 1 oM oM,hd 3 oM oM,Pe]
 simp only[zch,hd 1 oM oM,hd 3 oM oM,hd 4 oM oM,Pe]
def ZR {w:L8} (h: ∀k:Int,1<=k->k<6->oG k≠w):[1,3,4,5].find? (λk:Int=>decide (oG k=w))=none:=by
 rw[zfp];intro k hk;simp only[zbb,zam,or_false]at hk;have:=h k oM oM;simpa using this
def adY:[1,3,4,5].find? (λk:Int=>decide (oG k=[]))=none:=dC
def ZT (w:L8) (c:UInt8):Lib.hasPrefix w [c]=decide (w.head?=some c):=by
 unfold Lib.hasPrefix;cases w with
 | nil=>rfl
 | cons x t=>
  by_cases h:c=x
  .subst h;simp[List.isPrefixOf]
  have h': ¬x=c:=λe=>h e.symm;simp[List.isPrefixOf,h,h']
def aj3 {p:L8->Bool} (h:lW.findIdx? p=some i):lW[i]? =lW[i]? /\i<12:=by
 obtain⟨h1,_⟩:=zcw.1 h;exact⟨rfl,h1⟩
section
variable {w:Wd}
def KH (l:L8) (hl:l.length<=1000000) (hT:gT w):aQ prog 282 [str l,I 10,I 64] w λv w'=>(∃e,v=.tuple #[I (ng l),e])/\Kept noB w w':=by
 have hs:(⟨l.toArray⟩:ByteArray).size=l.length:=Mw.size_mk l;cases h:Lib.parseIntB 64 l
 .rename_i v
  have hn:ng l=v:=by unfold ng;rw[h]
  rw[hn]
  exact Calls.mono (Tryz.strconv_ParseInt_10_at64_ok ⟨l.toArray⟩ (by rw[hs];omega) v h w) λe w' he=>by
   obtain⟨rfl,hw⟩:=he;refine⟨⟨_,rfl⟩,?_⟩
   rcases hw with rfl | ⟨t,rfl⟩
   .exact Kept.refl _ _
   exact Kept.of_below (Lib.bytesWorld_below _ _ _)
 .skip
  have hn:ng l=0:=by unfold ng;rw[h]
  rw[hn];obtain⟨tp,p,hv⟩:=hT.syn
  exact Calls.mono (Tryz.strconv_ParseInt_10_at64_syntax_var ⟨l.toArray⟩ (by rw[hs];omega) h rfl tp p w hv) λe w' he=>by
   obtain⟨N,rfl,_,_,hb⟩:=he;exact⟨⟨_,rfl⟩,Kept.of_below hb⟩
 skip;have hn:ng l=Lib.intSat 64 l:=by unfold ng;rw[h]
 rw[hn];obtain⟨tp,p,hv⟩:=hT.ran
 exact Calls.mono (Tryz.strconv_ParseInt_10_at64_range_var ⟨l.toArray⟩ (by rw[hs];omega) h tp p w hv) λe w' he=>by
  obtain⟨N,rfl,_,_,hb⟩:=he;exact⟨⟨_,rfl⟩,Kept.of_below hb⟩
def zY (l:L8) (c:UInt8):aQ prog 281 [str l,str [c]] w λv w'=>v=.bool (decide (l.head?=some c))/\w=w':=
 lH (by
  have:=Tryz.strings_HasPrefix ⟨l.toArray⟩ ⟨[c].toArray⟩ w;rw[<-ZT];exact this)
theorem adZ (s:L8) (hl:s.length<=1000000) (hT:gT w):Rk prog 190 [str s] w (agg (aN (fF s))):=by
  have H:=Sep.aH w;obtain⟨res,ak⟩: ∃res,res=fF s:=⟨_,rfl⟩;rw[<-ak];unfold fF at ak;obtain⟨ix,hix⟩: ∃ix,ix=lW.findIdx? (λx=>decide (x=s)):=⟨_,rfl⟩
  have ar0:lW.findIdx? (λy=>decide (s=y))=ix:=by
    rw[hix];exact zay (λp=>lW.findIdx? p) (funext λy=>zbf.2 eq_comm)
  rw[<-hix]at ak;refine pE func190 ?_;refine Az (λb1 _ S _=>?_);refine V0 ?_;refine aL (WI) rfl rfl (λv' d hv=>?_);obtain⟨bs,rfl,_,cK,F1,hq,iC⟩:=hv;have f:=S.new cK hq (λb hb=>(iC b hb).resolve_left id);have hR:Rd d (some ⟨bs,0,none⟩) gP 1 lW:=Sep.lV f At0 rfl;have hRI:aJ d (.slice (some ⟨bs,0,none⟩) 12 12) gP 1 lW:=⟨some ⟨bs,0,none⟩,12,rfl,⟨zbi _,dC⟩,hR⟩;refine Mv ?_;refine Kz (adu s hRI) (λ_ f _=>?_);rw[ar0];refine Cz (λd=>?_) (λd=>?_)
  . obtain⟨i,hi⟩: ∃i:Nat,ix=some i:=by
      cases ix with
      | some i=>exact⟨i,rfl⟩
      | none=>exact zas d dC
    have ar1:zR ix=(i:Int):=by rw[hi];rfl
    rw[hi]at ak;dsimp only at ak;refine V1 ?_;rw[ar1];refine Vv (Gives.TB (c:=(7+(i:Int))) rfl rfl rfl (by have:=(aj3 (hix.symm.trans hi)).2;omega)) (Vb (aN ⟨7+(i:Int),0,[]⟩) ?_);refine Tz (λ_ S=>?_);refine V0 ?_;exact⟨_,fG S,by rw[ak];rfl,S.kept⟩
  have hi:ix=none:=by
    cases ix with
    | none=>rfl
    | some i=>exact zas (show zR (some i)≥0 from Int.natCast_nonneg i) d
  rw[hi]at ak;dsimp only at ak;refine V1 ?_;refine aI (λk:Nat=>[(0,str s),(2,.pointer (some ⟨b1,0,none⟩)),(4,I k)]) (λk w'=>(1<=k/\k<=6/\∀j:Int,1<=j->j<k->s≠[]->oG j≠s)/\Sep w noB [blk b1 (aN ⟨0,0,[]⟩) 66] w') (λk _=>6-k) 1 tR ⟨⟨zbi _,dC,λj a b=>zas b oM⟩,(f.aF).firsts (l:=[_])⟩ (λk τ _ hI=>?_);obtain⟨⟨jH,hk6,hnb⟩,S⟩:=hI;refine Lp ?_;refine Cz (λd=>?_) (λd=>?_)
  . refine Sz (λd=>?_) (λd=>?_)
    . have f:s≠[]:=d
      refine Kz (TI (k:Int)) (λ_ g _=>?_);refine Cz (λm=>?_) (λm=>?_)
      . have hfn:[1,3,4,5].find? (λk:Int=>decide (oG k=s))=some (k:Int):=ZQ f oM oM (λj a b=>hnb j a b f) (Eq.symm m)
        rw[hfn]at ak;dsimp only at ak;refine V1 ?_;refine Vb (aN ⟨6,(k:Int),[]⟩) ?_;refine Tz (λ_ n=>?_);refine V0 ?_;exact⟨_,fG n,by rw[ak];rfl,n.kept⟩
      have hnk:s≠[]->oG (k:Int)≠s:=λ_ h=>m h.symm;refine V1 ?_;refine Vc ((k+1:Nat):Int) ?_;refine V1 ?_;exact aj (k+1) tR ⟨⟨oM,oM,λj a b h0=>by
      by_cases e:j=k
      . rw[e];exact hnk h0
      exact hnb j a oM h0⟩,g⟩ oM
    have f:s=[]:=zcq.1 d;have hnk:s≠[]->oG (k:Int)≠s:=λh=>zas f h;refine V2 ?_;refine Vc ((k+1:Nat):Int) ?_;refine V1 ?_;exact aj (k+1) tR ⟨⟨oM,oM,λj a b h0=>by
    by_cases e:j=k
    . rw[e];exact hnk h0
    exact hnb j a oM h0⟩,S⟩ oM
  have hk:k=6:=oM
  have hfn:[1,3,4,5].find? (λk:Int=>decide (oG k=s))=none:=by
    by_cases h0:s=[]
    . rw[h0];exact adY
    exact ZR λj a b=>hnb j a oM h0
  rw[hfn]at ak;dsimp only at ak;refine Cz (λn=>?_) (λn=>?_)
  . rw[zac (show s=acX from n)]at ak
    refine Sr (Vb (aN ⟨3,1,[]⟩) ?_);refine Tz (λ_ m=>?_);refine V0 ?_;exact⟨_,fG m,by rw[ak];rfl,m.kept⟩
  rw[zaa (show ¬s=acX from n)]at ak;refine Cz (λm=>?_) (λm=>?_)
  . rw[zac (show s=U7 from m)]at ak
    refine Sr (Vb (aN ⟨3,0,[]⟩) ?_);refine Tz (λ_ n=>?_);refine V0 ?_;exact⟨_,fG n,by rw[ak];rfl,n.kept⟩
  rw[zaa (show ¬s=U7 from m)]at ak;refine V1 ?_;refine eG (zY s 35) (h:=?_);refine Am ?_;refine Cz (λn=>?_) (λn=>?_)
  . have hh:s.head?=some 35:=n
    rw[zac hh]at ak;refine V1 ?_;refine Vv (Gives.qc (i:=1) rfl rfl (by cases s with | nil=>cases hh | cons a b=>simp)) (aL (KH (s.drop 1) (by rw[zbo];omega) (hT.keep S.kept)) rfl rfl (λv' _ hv=>?_));obtain⟨⟨er,rfl⟩,cK⟩:=hv;have m:=S.keep cK;refine V6 ?_;refine Vb (aN ⟨1,ng (s.drop 1),[]⟩) ?_;refine Tz (λ_ m=>?_);refine V0 ?_;exact⟨_,fG m,by rw[ak];rfl,m.kept⟩
  rw[zaa (show ¬s.head?=some 35 from n)]at ak;refine V1 ?_;refine eG (zY s 34) (h:=?_);refine Am ?_;refine Cz (λm=>?_) (λm=>?_)
  . rw[zac (show s.head?=some 34 from m)]at ak
    refine V1 ?_;refine aL (W9 s hl (hT.keep S.kept)) rfl rfl (λv' _ hv=>?_);obtain⟨⟨nn,er,rfl⟩,cK⟩:=hv;have n:=S.keep cK;refine V8 ?_;refine Vb (aN ⟨4,0,(U6 s).1⟩) ?_;refine Tz (λ_ n=>?_);refine V0 ?_;exact⟨_,fG n,by rw[ak];rfl,n.kept⟩
  rw[zaa (show ¬s.head?=some 34 from m)]at ak;refine V1 ?_;refine eG (zY s 120) (h:=?_);refine Am ?_;refine Cz (λn=>?_) (λn=>?_)
  . have hh:s.head?=some 120:=n
    rw[zac hh]at ak;refine Sr (Vb (aD iE) ?_);refine Mv ?_;refine aL (ZK s hl hh (hT.keep S.kept).utf) rfl rfl (λv' _ hv=>?_);obtain⟨⟨er,rfl⟩,cK⟩:=hv;have m:=S.keep cK;refine Az (λb129 _ _ _=>?_);refine Tz (λ_ _=>?_);refine V3 ?_;refine Vb (aN ⟨5,0,GX s⟩) ?_;refine Tz (λ_ m=>?_);refine V0 ?_;exact⟨_,fG m,by rw[ak];rfl,m.kept⟩
  rw[zaa (show ¬s.head?=some 120 from n)]at ak;refine V1 ?_;refine aL (KH s hl (hT.keep S.kept)) rfl rfl (λv' _ hv=>?_);obtain⟨⟨er,rfl⟩,cK⟩:=hv;have m:=S.keep cK;refine V6 ?_;refine Vb (aN ⟨2,ng s,[]⟩) ?_;refine Tz (λ_ m=>?_);refine V0 ?_;exact⟨_,fG m,by rw[ak];rfl,m.kept⟩
end
def yX (h:Lib.indexByte l 32= -1):cB 32 l=[l]:=
 EU λc hc e=>by
  obtain⟨k,hk⟩:=zdd hc;exact Lib.indexByte_none h k (by rw[hk,e])
def Ju {o:Nat} (h:Lib.indexByte l 32=o):o<l.length/\cB 32 l=l.take o::cB 32 (l.drop (o+1)):=by
 obtain⟨h1,h2⟩:=Lib.indexByte_some h;have aX:=(zax.1 h1).1
 have e:l=l.take o++32::l.drop (o+1):=by
  have e1:l.drop o=32::l.drop (o+1):=by
   rw[zbn aX]
   congr 1
   rw[zab aX]at h1;injection h1
  conv=>lhs;rw[<-zbs o l,e1]
 refine⟨aX,?_⟩
 have:=Kh (sep:=32) (w:=l.take o) (l:=l.drop (o+1)) λc hc e=>by
  obtain⟨k,hk⟩:=zdd hc;rw[zcu]at hk
  split at hk
  .exact h2 k oM (by rw[hk,e])
  cases hk
 rw[<-this,<-e]
section
variable {w:Wd}
def Xa (l:L8):aQ prog 278 [str l,str [32]] w λv w'=>v=I (Lib.indexByte l 32)/\w=w':=
 lH (Tryz.strings_Index_one ⟨l.toArray⟩ 32 w)
def ZU {S:NP} {w0:Wd} {J:List (L8)->HP} {L:List (L8)->L8->HP} {l D:Nat} {ro rj:Obj} {bP bS bV:Nat} {s:L8} (hl:s.length<=1000000)
    (HW:Sep w0 S [obj l ro,obj D (.deferred (some [])),J [],blk bP [str [32]] 9,blk bS [str s] 9,blk bV [I 0] 3] w)
    (hy: ∀(pre:List (L8)) (x:L8) (Fr:List HP) (W:Wd),pre++[x]<+:cB 32 s->Sep w0 S (obj l ro::obj D (.deferred (some []))::J pre::Fr) W->UQ prog l [str x] W λb W'=>if b=true then Sep w0 S (obj l ro::obj D (.deferred (some []))::J (pre++[x])::Fr) W' else Sep w0 S [obj l rj,obj D (.deferred (some [])),L pre x] W'):
    aQ prog 328 [.func (.yield l) #[] #[],av bP,av bS,av bV] w λ_ W'=>Sep w0 S [obj l ro,obj D (.deferred (some [])),J (cB 32 s)] W'\/∃pre x,pre++[x]<+:cB 32 s/\Sep w0 S [obj l rj,obj D (.deferred (some [])),L pre x] W':=by
  have H:=HW;refine yM func328 ?_;refine Cz (λk=>?_) (λk=>?_)
  . exact zas k dC
  refine V0 ?_;refine aI (λ_:List (L8)×L8=>[(0,.func (.yield l) #[] #[]),(1,av bP),(2,av bS),(3,av bV)]) (λx w'=>(x.1++cB 32 x.2=cB 32 s/\x.2.length<=s.length)/\Sep w0 S [obj l ro,obj D (.deferred (some [])),J x.1,blk bP [str [32]] 9,blk bS [str x.2] 9,blk bV [I 0] 3] w') (λx _=>x.2.length) ([],s) tR ⟨⟨rfl,zbi _⟩,H⟩ (λx τ _ hI=>?_);obtain⟨pre,t⟩:=x;obtain⟨⟨Eu,Bj⟩,k⟩:=hI;dsimp only at Eu Bj k;refine Lp ?_;refine V2 ?_;refine eG (Xa t) (h:=?_);refine Cz (λa=>?_) (λa=>?_)
  . have Y7:Lib.indexByte t 32= -1:=by have h1:=a;have h2:=Lib.indexByte_ge t 32;omega
    have jI:pre++[t]<+:cB 32 s:=by rw[<-Eu,yX Y7];exact List.prefix_refl _
    have jN:pre++[t]=cB 32 s:=by rw[<-Eu,yX Y7]
    refine V2 ?_;refine DF rfl (hy pre t _ _ jI k) rfl rfl (λb8 _ Vr=>?_);refine V0 ?_;cases b8 with
    | true=>rw[zac rfl]at Vr;rw[<-jN];exact .inl (Vr.firsts (l:=[_,_,_]))
    | false=>rw[zaa dC]at Vr;exact .inr ⟨pre,t,jI,Vr⟩
  obtain⟨o,ho⟩: ∃o:Nat,Lib.indexByte t 32=o:=⟨(Lib.indexByte t 32).toNat,by have h1:=a;omega⟩;obtain⟨ar2,hot⟩:=Ju ho
  have jI:pre++[t.take o]<+:cB 32 s:=by
    rw[<-Eu,hot];exact⟨cB 32 (t.drop (o+1)),sM⟩
  rw[ho];refine V3 ?_;refine Vc (o:Int) ?_;refine Vv (Gives.sQ (i:=o) rfl rfl oM) (V3 ?_);refine DF rfl (hy pre (t.take o) _ _ jI k) rfl rfl (λb8 _ Vr=>?_);refine O1 ?_;refine Qn (Cd rfl (λa=>?_) (λa=>?_))
  . have hb:b8=false:=by have h1:=a;revert h1;cases b8<;>simp
    rw[hb,zaa dC]at Vr;refine V0 ?_;exact .inr ⟨pre,t.take o,jI,Vr⟩
  have hb:b8=true:=by have h1:=a;revert h1;cases b8<;>simp
  rw[hb,zac rfl]at Vr;have a:=Vr;refine V4 ?_;refine Vv (Gives.TB (c:=((o+1:Nat):Int)) rfl rfl (by show(o:Int)+1=_;omega) oM) (Vv (Gives.qc (i:=o+1) rfl rfl oM) ?_);refine Uz (λ_ a=>?_);refine V0 ?_;exact aj (pre++[t.take o],t.drop (o+1)) tR ⟨⟨by dsimp only;rw[<-Eu,hot];simp,by dsimp only;rw[zbo];omega⟩,a⟩ (by dsimp only;rw[zbo];omega)
end
def FV {P:Program} {T:Td} [h1:OneCell P T] {w:Wd} {v:Value} {E:Td} (hb:w.heap[b]? =some (.cells [v].toArray E (0,0))):(loadVar T ⟨b,0,none⟩).run P w=.ok v w:=by
 have hc:w.cell? ⟨b,0,none⟩=some v:=jW hb 0;simp[loadVar,h1.agg,hc]
def Xb {P:Program} {T U:Td} [OneCell P T] [OneCell P U] {σ:St} {w:Wd} {x y:Nat} {v u:Value} {E F:Td} (hx:w.heap[x]? =some (.cells [v].toArray E (0,0))) (hy:w.heap[y]? =some (.cells [u].toArray F (0,0)))
    (ha:σ a=.pointer (some ⟨x,0,none⟩):=by exact rfl) (hb:σ b=.pointer (some ⟨y,0,none⟩):=by exact rfl):qQ P σ w [.cell a T,.cell b U] [v,u]:=
  ⟨v,[u],⟨x,0,none⟩,rfl,ha,FV hx,u,[],⟨y,0,none⟩,rfl,hb,FV hy,rfl⟩
def Xc: ∀(l:L8),∀w∈cB 32 l,w.length<=l.length
 | [],w,h=>by
  have :w=[]:=by simpa[cB]using h
  rw[this];simp
 | c::l,w,h=>by
  have ih:=Xc l
  by_cases hc:c=32
  .rw[cB,zac hc]at h
   rcases zbb.1 h with rfl | h
   .simp
   have:=ih w h;simp only[zaq];omega
  obtain⟨H,ws,e1,e2⟩:=qg (sep:=32) (l:=l) hc;rw[e2]at h;rw[e1]at ih
  rcases zbb.1 h with rfl | h
  .have:=ih H sM
   simp only[zaq];omega
  have:=ih w (zau _ h);simp only[zaq];omega
def xL (w:L8):fits (fF w).n:=by
 unfold fF fits
 split
 .dsimp only;omega
 split
 .rename_i k hk
  have:=zev hk;simp at this;dsimp only;omega
 repeat' split
 all_goals first | exact La _ | (dsimp only;omega)
def KI: ∀{ws:List (L8)},(∀y∈ws,sZ (fF y) y=true)->readAll ws=some (ws.map fF)
 | [],_=>rfl
 | w::ws,h=>by
  rw[readAll,zac (h w sM),KI λy hy=>h y (zau _ hy)];rfl
def KJ: ∀{ws:List (L8)} {x:L8},x∈ws->sZ (fF x) x=false->readAll ws=none
 | w::ws,x,hm,hb=>by
  rw[readAll]
  split
  .rename_i hg
   rcases zbb.1 hm with rfl | hm
   .rw[hb]at hg;cases hg
   rw[KJ hm hb];rfl
  rfl
def agM (b:Nat) (l:List bL):HP:=exH λv=>star (blk b [v] 23) (aU 66 3 aN v l)
def amM (b2 b3 b4:Nat) (pre:List (L8)):HP:=je [jk (∀y∈pre,sZ (fF y) y=true),blk b2 [.slice none 0 0] 23,blk b3 [I 0] 31,agM b4 (pre.map fF)]
def aq6 (b2 b3:Nat) (_:List (L8)) (x:L8):HP:=je [jk (sZ (fF x) x=false),blk b2 [.slice none 0 0] 23,blk b3 [I 4] 31]
section
variable {w:Wd}
def Xd (s:L8):aQ Tryz.prog 279 [str s,str [32],I 0] w λv w'=>∃x:Nat×Nat×Nat,v=.func (.func 328) #[] #[av x.1,av x.2.1,av x.2.2]/\True/\Turn noB (star (blk x.1 [str [32]] 9) (star (blk x.2.1 [str s] 9) (blk x.2.2 [I 0] 3))) w w':=by
 have H:=Sep.aH w;refine D9 Tryz.func279 ?_;refine Sr (bB H (h:=λb1 _ k _=>?_));refine bB k (h:=λb3 _ k _=>?_);refine bB k (h:=λb5 _ k _=>?_);refine V1 ?_;refine Vv (Gives.makeFunc (fs:=[]) (us:=[]) (cs:=[.tmp 4,.tmp 3,.tmp 5]) rfl rfl) (V1 ?_);exact⟨(b3,b1,b5),rfl,trivial,(Sep.aR (Sep.aF (Sep.aR k.aO))).turn⟩
def Xe (s:L8):aQ Tryz.prog 189 [str s,str [32]] w λv w'=>∃x:Nat×Nat×Nat,v=.func (.func 328) #[] #[av x.1,av x.2.1,av x.2.2]/\True/\Turn noB (star (blk x.1 [str [32]] 9) (star (blk x.2.1 [str s] 9) (blk x.2.2 [I 0] 3))) w w':=by
 have H:=Sep.aH w;refine bU Tryz.func189 ?_;refine V3 ?_;refine aL (Xd s) rfl rfl (λv' _ hv=>?_);obtain⟨x,rfl,_,cK,F1,hq,iC⟩:=hv;have k:=H.new cK hq (λb hb=>(iC b hb).resolve_left id);refine V1 ?_;exact⟨x,rfl,trivial,k.turn⟩
def Xf (l:L8):aQ Tryz.prog 188 [str l,str [32]] w λv w'=>v=I ((l.count 32:Nat):Int)/\w=w':=
 lH (Tryz.strings_Count_one ⟨l.toArray⟩ 32 w)
theorem ad1 (s:L8) (hl:s.length<=1000000\/1048576<s.length) (YX:s.length<=1000000000) (hT:gT w):aQ Tryz.prog 138 [str s] w λv w'=>∃x,v=.tuple #[x,I (eD s).2]/\True/\Turn noB (aU 66 3 aN x (eD s).1) w w':=by
  have H:=Sep.aH w;obtain⟨res,ak⟩: ∃res,res=eD s:=⟨_,rfl⟩;rw[<-ak];unfold eD at ak;refine aiv Tryz.func138 ?_;refine Az (λb1 _ _ _=>?_);refine Az (λb3 _ _ _=>?_);refine Sz (λk=>?_) (λk=>?_)
  . rw[zac (.inl oM)]at ak
    refine Uz (λ_ _=>?_);refine Uz (λ_ k=>?_);refine Qn (Rs (GV (h:=?_)));exact⟨[.slice none 0 0,I 5],Xb (k.obj At1) (k.obj At0),.slice none 0 0,by rw[ak];rfl,trivial,by rw[ak];exact(Sep.iW k 66 3 aN).first.turn⟩
  have rW:s.length<=1000000:=oM;have VB:=Vh s 32;refine V1 ?_;refine eG (Xf s) (h:=?_);refine Cz (λk=>?_) (λk=>?_)
  . rw[zac (.inr oM)]at ak
    refine Uz (λ_ _=>?_);refine Uz (λ_ k=>?_);refine Qn (Rs (GV (h:=?_)));exact⟨[.slice none 0 0,I 5],Xb (k.obj At1) (k.obj At0),.slice none 0 0,by rw[ak];rfl,trivial,by rw[ak];exact(Sep.iW k 66 3 aN).first.turn⟩
  have k:s.count 32<64:=oM;rw[zaa oM]at ak;refine Cz (λk=>?_) (λk=>?_)
  . rw[zac k]at ak
    refine Uz (λ_ _=>?_);refine Uz (λ_ S=>?_);refine Qn (Rs (GV (h:=?_)));exact⟨[.slice none 0 0,I 0],Xb (S.obj At1) (S.obj At0),.slice none 0 0,by rw[ak];rfl,trivial,by rw[ak];exact(Sep.iW S 66 3 aN).first.turn⟩
  rw[zaa k]at ak;refine Az (λb4 _ S _=>?_);refine V1 ?_;refine aL (Xe s) rfl rfl (λv' k hv=>?_);obtain⟨⟨bP,bS,bV⟩,rfl,_,cK,F1,hq,iC⟩:=hv;dsimp only at hq;have a:=S.new cK hq (λb hb=>(iC b hb).resolve_left id);refine V0 ?_;have hcs:=yg 32 s
  have HJ:Mw.Sep w noB (amM b1 b3 b4 []::[blk bP [str [32]] 9,blk bS [str s] 9,blk bV [I 0] 3]) k:=by
    have h1:=(Sep.iW a 66 3 aN).aO;have h4:=Sep.tY (p:=λv=>star (blk b4 [v] 23) (aU 66 3 aN v [])) (.slice none 0 0) (Sep.aR h1);have h7:=Sep.bundle (l:=[jk (∀y∈([]:List (L8)),sZ (fF y) y=true),_,_,_]) (rs:=[_]) (Sep.jP (λy hy=>zas hy zam) h4.aO.aS);exact h7.aF.bE.aF.bE.aS.aS.alV
  refine R6 (gf:=328) (lb:=[av bP,av bS,av bV]) str (cB 32 s) (amM b1 b3 b4) (aq6 b1 b3) _ HJ rfl rfl ?_ ?_ ?_ ?_
  . intro l D ro rb pre x Fr W jI HW
    have hxm:x∈cB 32 s:=jI.subset (zcv pre (zaw.2 rfl));have hxl:x.length<=1000000:=zck (Xc s x hxm) rW;have Ql:pre.length+1<=64:=by have:=jI.length_le;rw[zad,zaf]at this;omega
    have Jc:(pre.map fF).length=pre.length:=zae _;have hmp:(pre++[x]).map fF=pre.map fF++[fF x]:=by rw[zak];rfl
    refine O1 ?_;refine yj (qP ?_);refine⟨[],HW,λWB HB=>?_⟩;have HB2:Mw.Sep w noB (obj l rb::obj D (.deferred (some []))::amM b1 b3 b4 pre::Fr) WB:=HB;replace HB2:=(HB2.aO).parts;obtain⟨CQ,HB3⟩:=HB2.ru;obtain⟨v4,HB4⟩:=(Sep.aO HB3).ex0;replace HB:=HB4.bE;obtain⟨B4,cb,rfl,Pv,hB4⟩:=Sep.bH HB At1;refine V1 ?_;refine XK HB (adZ x hxl (hT.keep HB.kept)) (h:=λ_ _ _=>?_);refine Az (λb6 _ _ _=>?_);refine Tz (λ_ a=>?_);refine Kz (Zw (fF x) (xL x) (hT.keep a.kept).utf) (λ_ a _=>?_);refine V2 ?_;refine dL (t:=25) rfl (λk=>?_) (λk=>?_)
    . have jV:sZ (fF x) x=false:=by
        have h1:=k;unfold sZ
        revert h1
        cases dU (fF x)<;>simp
      refine Uz (λ_ _=>?_);refine Uz (λ_ S=>?_);refine Qn (Rs (uR (AA ?_)));exact(Sep.bundle (l:=[jk (sZ (fF x) x=false),_,_]) (rs:=[_,_]) (Sep.jP jV ((S.lu.lu.lu.lu).firsts (l:=[_,_,_,_])))).GK
    have YX:dU (fF x)=true:=by have h1:=k;revert h1;cases dU (fF x)<;>simp
    refine Kz (WJ (fF x) YX (xL x) (hT.keep a.kept)) (λ_ S _=>?_);refine Cz (λk=>?_) (λk=>?_)
    . have jV:sZ (fF x) x=false:=by
        unfold sZ;rw[YX,zal (show ¬gX (fF x)=x from k)];rfl
      refine Uz (λ_ _=>?_);refine Uz (λ_ a=>?_);refine Qn (Rs (uR (AA ?_)));exact(Sep.bundle (l:=[jk (sZ (fF x) x=false),_,_]) (rs:=[_,_]) (Sep.jP jV ((a.lu.lu.lu.lu).firsts (l:=[_,_,_,_])))).GK
    have hgx:sZ (fF x) x=true:=Kg.2 ⟨YX,zcq.1 k⟩;refine V2 ?_;refine Bs S ([fF x].flatMap aN) (λbs _ a _=>?_);refine dJ a (news:=[fF x]) At2 (by rw[Jc];unfold maxLen;simp;omega) (by rw[Jc];show(pre.length+1)*32<=_;omega) (by intro u hu;simp only[zbh,zfm,aN,zbt,zbb,zam,or_false]at hu;rcases hu with rfl | rfl | rfl<;>rfl) (h:=?_);intro v2 a a;rw[<-hmp]at a;obtain⟨B2,c2,rfl,k,hB2⟩:=Sep.bH a At2;refine Uz (λ_ k=>?_);refine yj (xG (Ej ?_));have h2:=Sep.tY (p:=λv=>star (blk b4 [v] 23) (aU 66 3 aN v ((pre++[x]).map fF))) _ (Sep.aR k.bI)
    have Vk: ∀y∈pre++[x],sZ (fF y) y=true:=by
      intro y hy
      rcases zbk.1 hy with h | h
      . exact CQ y h
      rw[zaw.1 h];exact hgx
    exact(Sep.bundle (l:=[jk (∀y∈pre++[x],sZ (fF y) y=true),_,_,_]) (Sep.jP Vk h2.GK)).GK
  . intro l D ro rj W HW hy
    exact ZU rW HW hy
  rotate_left 1
  . intro D W pre x jI HD
    obtain⟨jV,HD2⟩:=((HD.aF).parts).ru;have hr:=KJ (jI.subset (zcv pre (zaw.2 rfl))) jV;rw[hr]at ak;exact uR (FB (zx HD2 At2 (λ_ k=>⟨[.slice none 0 0,I 4],Xb (k.obj At0) (k.obj At1),.slice none 0 0,by rw[ak];rfl,trivial,by rw[ak];exact(Sep.iW k 66 3 aN).first.turn⟩)))
  intro D k k;have k:=(k.aF).parts;obtain⟨CQ,k⟩:=k.ru;obtain⟨v4,k⟩:=(Sep.aO k).ex0;have k:=k.bE;obtain⟨B4,cb,rfl,Pv,hB4⟩:=Sep.bH k At1;rw[KI CQ]at ak;refine Uz (λ_ _=>?_);refine Uz (λ_ k=>?_);refine Qn (ME (zx k At4 (hR:=λ_ k=>?_)));exact⟨[_,I 0],Xb (k.obj At2) (k.obj At3),_,by rw[ak];rfl,trivial,by rw[ak];exact k.aF.first.turn⟩
end
end
end Go.Proofs.Mw
