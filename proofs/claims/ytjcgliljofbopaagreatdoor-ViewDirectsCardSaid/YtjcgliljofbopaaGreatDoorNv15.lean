/-
 A range over a map;the program's escapes in literals,walked.
-/
import Derived.Test.YtjcgliljofbopaaGreatDoorNv14
set_option linter.all false
set_option maxRecDepth 4000
namespace Go.Proofs.Mw
variable {b bm clock d:Nat} {x:Od} {es:Array MapEntry}
open Go.RowKit
section
variable {P:Program} {r:Option Nat} {n:Nat} {ops:AO} {Q:Post} {rest:LO} {σ:St} {w w0:Wd} {S:NP} {rs:List HP} {put:HP->List HP} {ty:Td} {pos:String} {after:Array Edge}
def acW {T k e:Td} [ht:IsMap P T k e] (H:Sep w0 S rs w) (hb:w.heap[bm]? =some (.map es clock)) (hx:evF σ x=.map (some bm):=by exact rfl) (hd:Nat.blt d n=true:=by exact rfl)
    (h: ∀b w',Sep w0 S (obj b (.mapIter (some bm) clock #[] clock)::rs) w'->FL P r n ops Q rest (upd σ d (.pointer (some ⟨b,0,none⟩))) w'):FL P r n ops Q (⟨some d,.range T x,ty,pos,after,none⟩::rest) σ w:=
  dw (λ_ _ _ _=>by
    have:=run_range_map (P:=P) w T k e bm es clock ht.und hb;simp only[execOp,hx,zbi,this,zam,zbl]) hd (h _ _ (H.alloc _))
def afL {since c0:Nat} {seen:Array Nat} (H:Sep w0 S rs w) (hat:At rs (obj b (.mapIter (some bm) since seen c0)) put) (hb:w.heap[bm]? =some (.map es clock)) (hold: ∀x∈es.toList,x.born<since) (hsc:since<=c0)
    (h1: ∀en,en∈(leftOf es seen).toList->∀w',Sep w0 S (put (obj b (.mapIter (some bm) since (seen.push en.born) clock))) w'->FL P r n ops Q rest (upd σ d (.tuple #[.bool true,en.key,en.val])) w')
    (h2:(leftOf es seen).size=0->FL P r n ops Q rest (upd σ d (.tuple #[.bool false])) w) (hx:evF σ x=.pointer (some ⟨b,0,none⟩):=by exact rfl) (hd:Nat.blt d n=true:=by exact rfl):
    FL P r n ops Q (⟨some d,.next x false,ty,pos,after,none⟩::rest) σ w:=by
  have hr:=H.obj hat
  rcases run_next_at (P:=P) w ty b bm since c0 seen es clock hr hb hold hsc with⟨h0,iq⟩ | ⟨en,EG,k,Au,iq⟩
  . exact dw (λ_ _ _ _=>by simp only[execOp,hx,zbi,iq,zam,zbl]) hd (h2 h0)
  have lI:Kept noB w k:=by
    rcases Au with rfl | rfl
    . exact Kept.refl _ _
    exact Kept.drew w
  have I:=H.keep lI;have aS:=lZ (I.obj hat);refine dw (w':=Go.ChangeMaps.setBlock k b (.mapIter (some bm) since (seen.push en.born) clock)) (λ_ _ _ _=>by simp only[execOp,hx,zbi,iq,zam,zbl]) hd (h1 en EG _ (I.setObj hat ⟨rfl,rfl,rfl,by simp[Go.ChangeMaps.setBlock],λj hj iN=>?_⟩ (by simp[Go.ChangeMaps.setBlock,aS])));simp only[Go.ChangeMaps.setBlock,zbx];rw[zab (λe=>iN e.symm)]
def Gives.alF {ρ:Od->Value} {since:Nat} {seen:Array Nat} {en:MapEntry} (hx:ρ x=.pointer (some ⟨b,0,none⟩))
    (hr:w.heap[b]? =some (.mapIter (some bm) since (seen.push en.born) clock)) (hb:w.heap[bm]? =some (.map es clock)) (he:en∈es.toList) (hn:(es.toList.map (·.born)).Nodup):Gives P ρ (.entry x) ty w (.tuple #[en.key,en.val]) w:=λ_ _ _ _=>by
  have:=run_entry_at (P:=P) w b bm since seen es clock en hr hb he hn;simp only[execOp,hx,zbi,this,zam,zbl]
end
variable {c:UInt8} {F:NP}
open Go.Lib
section
attribute [local irreducible] FW FL FG FGn jK jO fI lU Qfn Gives
def J3 (c:UInt8):Option UInt8:=if c=34 then some 34 else if c=92 then some 92 else if c=98 then some 8 else if c=102 then some 12 else if c=110 then some 10 else if c=114 then some 13 else if c=116 then some 9 else none
def VK: ∀x∈iC.toList,x.born<7:=by
 intro x hx;simp only[iC,zba,zan,or_false]at hx
 rcases hx with rfl | rfl | rfl | rfl | rfl | rfl | rfl<;>exact dC
def Fh:(iC.toList.map (·.born)).Nodup:=by
 show [0,1,2,3,4,5,6].Nodup
 decide
def Y3 {x:MapEntry} (hx:x∈iC.toList): ∃k v:UInt8,x.key=.int .i32 (k.toNat:Int)/\x.val=B v/\k.toNat<128/\∀c:UInt8,c=v->J3 c=some k:=by
 simp only[iC,zba,zan,or_false]at hx
 rcases hx with rfl | rfl | rfl | rfl | rfl | rfl | rfl
 .exact⟨34,34,rfl,rfl,dC,λc h=>by subst h;rfl⟩
 .exact⟨92,92,rfl,rfl,dC,λc h=>by subst h;rfl⟩
 .exact⟨8,98,rfl,rfl,dC,λc h=>by subst h;rfl⟩
 .exact⟨12,102,rfl,rfl,dC,λc h=>by subst h;rfl⟩
 .exact⟨10,110,rfl,rfl,dC,λc h=>by subst h;rfl⟩
 .exact⟨13,114,rfl,rfl,dC,λc h=>by subst h;rfl⟩
 exact⟨9,116,rfl,rfl,dC,λc h=>by subst h;rfl⟩
def acX (h: ∀x∈iC.toList,x.val≠B c):J3 c=none:=by
 have g: ∀(k:Int) (v:UInt8) (b:Nat),zw k (v.toNat:Int) b∈iC.toList->c≠v:=λk v b hm e=>h _ hm (by rw[e];rfl);unfold J3;rw[zab (g 34 34 0 (by simp[iC])),zab (g 92 92 1 (by simp[iC])),zab (g 8 98 2 (by simp[iC])),zab (g 12 102 3 (by simp[iC])),zab (g 10 110 4 (by simp[iC])),zab (g 13 114 5 (by simp[iC])),zab (g 9 116 6 (by simp[iC]))]
def anN {a b:UInt8} (h:B a=B b):a=b:=by
 injection h with _ h
 exact UInt8.toNat_inj.1 oM
def acY (l:L8) (n:Nat) (g:Nat×Nat×Int):L8×Nat×Int:=(if g.2.2≠0 then []else KP (65536+1024*((n:Int)-55296)+g.1-56320),g.2.1,g.2.2)
def VL (l:L8) (n:Nat) (a:Nat×Int):L8×Nat×Int:=acY l n (nR l (jQ l a.1 a.2 117).1 (jQ l a.1 a.2 117).2 true)
def Y4 (l:L8) (h:Nat×Nat×Int):L8×Nat×Int:=
 if 55296<=h.1/\h.1<56320 then VL l h.1 (jQ l h.2.1 h.2.2 92)else(if h.2.2≠0 then []else KP (h.1:Int),h.2.1,h.2.2)
def Qd (l:L8) (t:UInt8×Nat×Int):L8×Nat×Int:=
 if t.1=47 then([47],t.2.1,t.2.2)
 else match J3 t.1 with
  | some k=>([k],t.2.1,t.2.2)
  | none=>Y4 l (nR l t.2.1 (if t.1=117 then t.2.2 else jg t.2.2 41) false)
def AA (l:L8) (at_:Nat) (e:Int):L8×Nat×Int:=Qd l (dx l at_ e)
def abg (l:L8) (at_:Nat) (e:Int) (s:Bool):(nR l at_ e s).1<65536:=by
 have h0:=uM l at_ e;have h1:=uM l (eG l at_ e).2.1 (if s=true/\(eG l at_ e).1≠13 then jg (eG l at_ e).2.2 41 else(eG l at_ e).2.2);unfold nR;dsimp only;have h2: ∀a b,(eG l a b).1<16:=λa b=>uM l a b
 generalize hg:eG l at_ e=d0 at *
 have a1:=h2 d0.2.1 (if s=true/\d0.1≠13 then jg d0.2.2 41 else d0.2.2)
 generalize eG l d0.2.1 (if s=true/\d0.1≠13 then jg d0.2.2 41 else d0.2.2)=d1 at *
 have a2:=h2 d1.2.1 (if s≠decide (220<=16*d0.1+d1.1/\16*d0.1+d1.1<=223)then jg d1.2.2 41 else d1.2.2)
 generalize eG l d1.2.1 (if s≠decide (220<=16*d0.1+d1.1/\16*d0.1+d1.1<=223)then jg d1.2.2 41 else d1.2.2)=d2 at *
 have a3:=h2 d2.2.1 d2.2.2
 generalize eG l d2.2.1 d2.2.2=d3 at *
 omega
section
variable {w:Wd} {l:L8}
theorem Y5 {b at_:Nat} {e:Int} (hp:(sN b l at_ e).ok F w) (hl:l.length<=1000000) (ha:at_<=l.length):aR Tryz.prog 276 [ay b] w λr w'=>r=str (AA l at_ e).1/\Turn F (sN b l (AA l at_ e).2.1 (AA l at_ e).2.2) w w':=by
 have H:=Sep.bR hp;obtain⟨res,ak⟩: ∃res,res=AA l at_ e:=⟨_,rfl⟩;rw[<-ak];unfold AA Qd Y4 VL acY at ak;have Yx:=take_at (e:=e) ha;obtain⟨t,ht⟩: ∃t,t=dx l at_ e:=⟨_,rfl⟩;rw[<-ht]at Yx ak;have AJ:=t.1.toNat_lt;refine cK Tryz.func276 ?_;refine Zb2 ?_;obtain⟨F0,eD,gV,aK⟩:=H.focus At0;refine aL (Ms (l:=l) eD hl ha) rfl rfl (λv' _ hv=>?_);obtain⟨rfl,bZ,F1,hq,hs⟩:=hv;have S:=aK _ F1 _ bZ hq hs;rw[<-ht];rw[<-ht]at S;refine Cz (λI=>?_) (λI=>?_)
 .have h47:t.1=47:=UInt8.toNat_inj.1 (by have h:=I;show t.1.toNat=47;omega)
  rw[zac h47]at ak;refine Zb1 ?_;exact⟨by rw[ak];rfl,by rw[ak];exact S.turn⟩
 rw[zab (λh=>by rw[h]at I;exact I rfl)]at ak;refine Zb0 ?_;refine aL (Vz) rfl rfl (λv' _ hv=>?_);obtain⟨m,rfl,_,bZ,F1,p8,iA⟩:=hv;have I:=S.new bZ p8 (λb hb=>(iA b hb).resolve_left id);refine acW I (I.obj At0) (h:=λk _ I=>?_);refine Zb0 ?_;refine aI (λ_:Array Nat×Nat=>[(0,ay b),(3,B t.1),(12,.pointer (some ⟨k,0,none⟩))]) (λx w'=>(7<=x.2/\∀y∈iC.toList,x.1.contains y.born=true->y.val≠B t.1)/\Sep w F [obj k (.mapIter (some m) 7 x.1 x.2),obj m (.map iC 7),sN b l t.2.1 t.2.2] w') (λx _=>(leftOf iC x.1).size) (#[],7) tR ⟨⟨zbj _,λy _ hy=>by simp at hy⟩,I⟩ (λx τ _ hI=>?_);obtain⟨seen,c0⟩:=x;obtain⟨⟨I,ah4⟩,S⟩:=hI;dsimp only at I ah4 S;refine Lp ?_;refine Sr (afL S At0 (S.obj At1) VK I (h1:=λen akg _ I=>?_) (h2:=λakg=>?_))
 .obtain⟨uh,hns⟩:=mem_left akg
  obtain⟨kk,vv,nP,hva,as1,hbk⟩:=Y3 uh;have aqE:=left_shrinks iC seen en akg;refine Zb1 ?_;refine Vv (Gives.alF rfl (I.obj At0) (I.obj At1) uh Fh) ?_;rw[nP,hva];refine Cz (λf=>?_) (λf=>?_)
  .have hvt:vv=t.1:=UInt8.toNat_inj.1 (by have h:=f;omega)
   rw[hbk t.1 hvt.symm]at ak;dsimp only at ak;refine Zb1 ?_;refine Vv (Gives.ahh rfl) ?_;rw[R5 kk.toNat oM oM,show encodeRune (kk.toNat:Int)=[kk]from by unfold encodeRune;rw[encodeRuneZ_one oM oM];simp];refine Zb1 ?_;exact⟨by rw[ak];rfl,by rw[ak];exact(I.aN).firsts (l:=[_]).turn⟩
  have hvt:vv≠t.1:=λh=>f (by rw[h]);refine Zb0 ?_;exact aj (seen.push en.born,7) tR ⟨⟨zbj _,λy hy hyc=>by
  rw[contains_push]at hyc;cases hsy:seen.contains y.born with
  | true=>exact ah4 y hy hsy
  | false=>
   rw[hsy,Bool.false_or,beq_iff_eq]at hyc;have:=born_inj Fh hy uh hyc;rw[this,hva];exact λh=>hvt (anN h)⟩,I⟩ aqE
 have jE:=all_seen iC seen akg;have hbn:=acX (λx hx=>ah4 x hx (jE x hx));rw[hbn]at ak;dsimp only at ak;obtain⟨e1,KH⟩: ∃e1,e1=if t.1=117 then t.2.2 else jg t.2.2 41:=⟨_,rfl⟩
 rw[<-KH]at ak;have hhl:=abg l t.2.1 e1 false;have hha:=R8 (e:=e1) (s:=false) Yx;obtain⟨h,hh⟩: ∃h,h=nR l t.2.1 e1 false:=⟨_,rfl⟩;rw[<-hh]at ak hhl hha;refine Vx ?_;refine Qn (AL (Dx rfl ?_));refine aaY (PK (JU (PL (iX (dD (λ_:Unit=>[(0,ay b)]) (λ_ w'=>Sep w F [sN b l t.2.1 e1] w') ?_ ?_)))))
 .refine Cz (λf=>?_) (λf=>?_)
  .have Yl:jg t.2.2 41=e1:=by rw[KH,zab (λh=>f (by rw[h];rfl))]
   refine Zb1 ?_;obtain⟨F0,eD,gV,aK⟩:=S.focus At2;refine aL (oD (l:=l) 41 eD) rfl rfl (λv' _ hv=>?_);obtain⟨rfl,bZ,F1,hq,hs⟩:=hv;have I:=aK _ F1 _ bZ hq hs;refine Zb0 ?_;rw[Yl]at I;exact au () tR ((I.aN).firsts (l:=[_]))
  have Yl:t.2.2=e1:=by rw[KH,zac (UInt8.toNat_inj.1 (by have h:=f;show t.1.toNat=117;omega))]
  refine Zb0 ?_;rw[Yl]at S;exact au () tR ((S.aN).firsts (l:=[_]))
 intro _ τ I I;refine Lp ?_;refine Zb1 ?_;obtain⟨F0,eD,gV,aK⟩:=I.focus At0;refine aL (VG (l:=l) false eD hl Yx) rfl rfl (λv' _ hv=>?_);obtain⟨rfl,bZ,F1,hq,hs⟩:=hv;have I:=aK _ F1 _ bZ hq hs;rw[<-hh];rw[<-hh]at I;refine Am ?_;refine Qn (dD (λz:Int×Nat×Int=>[(0,ay b),(6,I32 z.1)]) (λz w'=>res=(if z.2.2≠0 then []else KP z.1,z.2.1,z.2.2)/\Sep w F [sN b l z.2.1 z.2.2] w') ?_ ?_)
 .refine Sz (λf=>?_) (λf=>?_)
  .have hge:=f
   refine Cz (λS=>?_) (λS=>?_)
   .have EH:55296<=h.1/\h.1<56320:=by have h2:=S;omega
    rw[zac EH]at ak;have hwa:=Fg (c:=92) (e:=h.2.2) hha;obtain⟨a,haa⟩: ∃a,a=jQ l h.2.1 h.2.2 92:=⟨_,rfl⟩;rw[<-haa]at ak hwa;have hwb:=Fg (c:=117) (e:=a.2) hwa;obtain⟨d,hdd⟩: ∃d,d=jQ l a.1 a.2 117:=⟨_,rfl⟩;rw[<-hdd]at ak hwb;have JQ:=abg l d.1 d.2 true;obtain⟨g,hgg⟩: ∃g,g=nR l d.1 d.2 true:=⟨_,rfl⟩;rw[<-hgg]at ak JQ;refine Zb1 ?_;obtain⟨F0,eD,gV,aK⟩:=I.focus At0;refine aL (Mt (l:=l) 92 eD hl hha) rfl rfl (λv' _ hv=>?_);obtain⟨rfl,bZ,F1,hq,hs⟩:=hv;have i:=aK _ F1 _ bZ hq hs;rw[<-haa]at i;refine Zb1 ?_;obtain⟨F0,eD,gV,aK⟩:=i.focus At0;refine aL (Mt (l:=l) 117 eD hl hwa) rfl rfl (λv' _ hv=>?_);obtain⟨rfl,bZ,F1,hq,hs⟩:=hv;have i:=aK _ F1 _ bZ hq hs;rw[<-hdd]at i;refine Zb1 ?_;refine Vv (Gives.amk (c:=(h.1:Int)-55296) rfl rfl (by rw[IntKind.wrap_i32];omega)) ?_;refine Vv (Gives.afE (c:=1024*((h.1:Int)-55296)) rfl rfl oM (by show IntKind.i32.wrap (((h.1:Int)-55296)*1024)=_;rw[IntKind.wrap_i32];omega)) (Vv (Gives.aaz (c:=65536+1024*((h.1:Int)-55296)) rfl rfl (by rw[IntKind.wrap_i32];omega)) ?_);refine Mv ?_;obtain⟨F0,eD,gV,aK⟩:=i.focus At0;refine aL (VG (l:=l) true eD hl hwb) rfl rfl (λv' _ hv=>?_);obtain⟨rfl,bZ,F1,hq,hs⟩:=hv;have i:=aK _ F1 _ bZ hq hs;rw[<-hgg];rw[<-hgg]at i;refine Vv (Gives.aaz (c:=65536+1024*((h.1:Int)-55296)+g.1) rfl rfl (by rw[IntKind.wrap_i32];omega)) ?_;refine Vv (Gives.amk (c:=65536+1024*((h.1:Int)-55296)+g.1-56320) rfl rfl (by rw[IntKind.wrap_i32];omega)) ?_
    refine Zb1 ?_;exact au (65536+1024*((h.1:Int)-55296)+g.1-56320,g.2.1,g.2.2) tR ⟨ak,i⟩
   have l9: ¬(55296<=h.1/\h.1<56320):=by have h2:=S;omega
   rw[zab l9]at ak;refine Zb0 ?_;exact au ((h.1:Int),h.2.1,h.2.2) tR ⟨ak,I⟩
  have l9: ¬(55296<=h.1/\h.1<56320):=by have h2:=f;omega
  rw[zab l9]at ak;refine Zb1 ?_;exact au ((h.1:Int),h.2.1,h.2.2) tR ⟨ak,I⟩
 rintro⟨n2,a2,e2⟩ τ i ⟨UL,i⟩;dsimp only at UL i;refine Lp ?_;refine Cz (λS=>?_) (λS=>?_)
 .rw[zac S]at UL
  refine Zb1 ?_;exact⟨by rw[UL];rfl,by rw[UL];exact i.turn⟩
 rw[zab S]at UL;refine Zb3 ?_;exact⟨by rw[UL];rfl,by rw[UL];exact i.turn⟩
end
end
section
variable {P:Program} {r:Option Nat} {n:Nat} {ops:AO} {Q:Post} {rest:LO} {σ:St} {w w0:Wd} {S:NP} {rs:List HP} {put:HP->List HP} {ty:Td} {pos:String} {after:Array Edge}
def VN {y:Od} {t u e:Td} [hs:cO P t e] [hu:lQ P u] [hc:Cells P e 1 1] [hz:Zero P e (.int .u8 0)]
    (H:Sep w0 S rs w) (hat:At rs (l8 e (.slice none 0 0) []) put) (hx:evF σ x=.slice none 0 0:=by exact rfl) (hy:evF σ y=str []:=by exact rfl) (hd:Nat.blt d n=true:=by exact rfl)
    (h: ∀w',Sep w0 S (put (l8 e (.slice none 0 0) [])) w'->FL P r n ops Q rest (upd σ d (.slice none 0 0)) w'):
    FL P r n ops Q (⟨some d,.call {callee:=.builtin .append,args:= #[x,y],argTypes:= #[t,u]},ty,pos,after,none⟩::rest) σ w:=by
  obtain⟨F,hp,_,_⟩:=H.focus hat;obtain⟨i,hi,qx⟩:=zbc.1 hc.size;simp only[Prod.mk.injEq]at qx
  have vL:i.zero=some (.int .u8 0):=by
    have:=hz.run w;simp[zeroValue,typeInfo,hi]at this;cases hq:i.zero with
    | none=>simp[hq]at this
    | some u=>simp[hq]at this;rw[this]
  obtain⟨v',w',iq,h1,h2,h3⟩:=Lib.run_append_own_string (P:=P) w 0 t u ty e i hs.und hu.und hi vL qx.1 qx.2 (.slice none 0 0) 0 [] hp.1 ⟨#[]⟩ dC dC (zak _);have hv:=h3.2 ⟨rfl,rfl⟩;subst hv;refine dw (v:=.slice none 0 0) (w':=w') (λ_ _ _ _=>?_) hd (h w' (H.CS hat h2 h1 (.inl rfl)));have hrun':(Builtin.append_ #[t,u] ty #[.slice none 0 0,.string ⟨#[]⟩]).run P w=.ok (.slice none 0 0) w':=iq;simp only[execOp,resolve,invoke,builtin,zbi,zbl,zam,zcc,zav,zcl,hx,hy,str,hrun']
end
variable {e:Int} {a i:Nat} {l:L8}
section
attribute [local irreducible] FW FL FG FGn jK jO fI lU Qfn Gives
section
variable {w:Wd} {l:L8}
def KL {news:L8} (iN:l++news≠[]) (hp:(vQ b l).ok F w) (hl:l.length+news.length<=100000000):aR Tryz.prog 126 [ay b,str news] w λr w'=>r=.tuple #[I news.length,.nilIface]/\Turn F (vQ b (l++news)) w w':=by
 obtain⟨a,v,ha,H⟩:=Sep.Mi (Sep.bR hp);refine bQ Tryz.func126 ?_;refine Zb3 ?_;obtain⟨F0,eD,gV,aK⟩:=H.focus At0;refine aL (A9 ha.1 eD) rfl rfl (λv' _ hv=>?_);obtain⟨rfl,bZ,F1,hq,hs⟩:=hv;have k:=aK _ F1 _ bZ hq hs;refine Zb6 ?_;refine Oc k (news:=news) At1 oM (h:=?_);intro v2 k k;obtain⟨A2,c2,rfl,_⟩:=Sep.xq k At1;refine Uz (λ_ k=>?_);refine Zb4 ?_;exact⟨rfl,(Sep.P8 ⟨.inr rfl,λe=>zar e iN⟩ k).turn⟩
def KM (hp:(vQ b []).ok F w):aR Tryz.prog 126 [ay b,str []] w λr w'=>r=.tuple #[I 0,.nilIface]/\Turn F (vQ b []) w w':=by
 obtain⟨a,v,ha,H⟩:=Sep.Mi (Sep.bR hp);have hv:=ha.2 rfl;subst hv;refine bQ Tryz.func126 ?_;refine Zb3 ?_;obtain⟨F0,eD,gV,aK⟩:=H.focus At0;refine aL (A9 ha.1 eD) rfl rfl (λv' w5 hv=>?_);obtain⟨rfl,bZ,F1,hq,hs⟩:=hv;have H5:=aK _ F1 _ bZ hq hs;refine Zb6 ?_;refine VN H5 At1 (h:=λwa Ha=>?_);refine Uz (λwb Hb=>?_);refine Zb4 ?_;exact⟨rfl,(Sep.P8 ⟨.inr rfl,λ_=>rfl⟩ Hb).turn⟩
def sO {l news:L8} (hp:(vQ b l).ok F w) (hl:l.length+news.length<=100000000):aR Tryz.prog 126 [ay b,str news] w λr w'=>r=.tuple #[I news.length,.nilIface]/\Turn F (vQ b (l++news)) w w':=by
 by_cases h:l++news=[]
 .obtain⟨rfl,rfl⟩:=List.append_eq_nil_iff.1 h
  exact KM hp
 exact KL h hp hl
end
section
def nS (e:Int):jg e 41≠0:=by
 unfold jg
 split
 .decide
 assumption
def Mx (h:e≠0):dx l a e=(0,a,e):=zac h
def xO (h:e≠0):(eG l a e).2.2≠0:=by
 unfold eG;rw[Mx h];show(jg e 41)≠0
 exact nS e
def Te {p:Prop} [Decidable p] (h:e≠0):(if p then jg e 41 else e)≠0:=by
 split
 .exact nS e
 exact h
def anO (h:e≠0):(jQ l a e c).2≠0:=by
 unfold jQ;rw[Mx h];dsimp only
 split
 .exact h
 exact nS e
def afM {a:Nat} {s:Bool} (h:e≠0):(nR l a e s).2.2≠0:=by
 unfold nR;exact xO (xO (Te (xO (Te (xO h)))))
def Fj (ha:a<=l.length) (h:l[a]? =none):(eG l a 0).2.2≠0:=by
 have :a=l.length:=by have:=zfy.1 h;omega
 unfold eG dx;rw[zab sM,zac this];show jg 3 41≠0
 exact nS 3
def yB (h:l[a]? =some c):dx l a 0=(c,a+1,0):=by
 have:=(zbb.1 h).1;unfold dx;rw[zab sM,zab oM,zax,h];rfl
def K6 (h:l[a]? =some c) (hd:nJ c=none):(eG l a 0).2.2≠0:=by
 unfold eG;rw[yB h];dsimp only;rw[hd];exact nS 0
def Tf (h:l[a]? =some c) (hd:nJ c=some d):eG l a 0=(d,a+1,0):=by
 unfold eG;rw[yB h];dsimp only;rw[hd]
def VO {l:L8} {a:Nat} {s:Bool} (ha:a<=l.length):((sD (l.drop a) s).2=0->nR l a 0 s=((sD (l.drop a) s).1,a+4,0))/\((sD (l.drop a) s).2≠0->(nR l a 0 s).2.2≠0):=by
 unfold sD;simp only[zci,zfb];unfold nR;cases h0:l[a]? with
 | none=>exact⟨λh=>zar h (show ¬(3:Int)=0 from dC),λ_=>xO (xO (Te (xO (Te (Fj ha h0)))))⟩
 | some c0=>
 have Gx:=(zbb.1 h0).1;dsimp only;cases g0:nJ c0 with
 | none=>exact⟨λh=>zar h (show ¬(41:Int)=0 from dC),λ_=>xO (xO (Te (xO (Te (K6 h0 g0)))))⟩
 | some d0=>
 rw[Tf h0 g0];dsimp only
 by_cases hs:s=true/\d0≠13
 .rw[zac hs,zac hs]
  exact⟨λh=>zar h (show ¬(41:Int)=0 from dC),λ_=>xO (xO (Te (xO (nS 0))))⟩
 rw[zab hs,zab hs];cases h1:l[a+1]? with
 | none=>exact⟨λh=>zar h (show ¬(3:Int)=0 from dC),λ_=>xO (xO (Te (Fj oM h1)))⟩
 | some c1=>
 have hl1:=(zbb.1 h1).1;dsimp only;cases g1:nJ c1 with
 | none=>exact⟨λh=>zar h (show ¬(41:Int)=0 from dC),λ_=>xO (xO (Te (K6 h1 g1)))⟩
 | some d1=>
 rw[Tf h1 g1];dsimp only
 by_cases H:s≠decide (220<=16*d0+d1/\16*d0+d1<=223)
 .rw[zac H,zac H]
  exact⟨λh=>zar h (show ¬(41:Int)=0 from dC),λ_=>xO (xO (nS 0))⟩
 rw[zab H,zab H];cases h2:l[a+2]? with
 | none=>exact⟨λh=>zar h (show ¬(3:Int)=0 from dC),λ_=>xO (Fj oM h2)⟩
 | some c2=>
 have hl2:=(zbb.1 h2).1;dsimp only;cases g2:nJ c2 with
 | none=>exact⟨λh=>zar h (show ¬(41:Int)=0 from dC),λ_=>xO (K6 h2 g2)⟩
 | some d2=>
 have e2:eG l (a+1+1) 0=(d2,a+1+1+1,0):=Tf h2 g2;rw[e2];dsimp only;cases h3:l[a+3]? with
 | none=>exact⟨λh=>zar h (show ¬(3:Int)=0 from dC),λ_=>Fj oM h3⟩
 | some c3=>
 dsimp only;cases g3:nJ c3 with
 | none=>exact⟨λh=>zar h (show ¬(41:Int)=0 from dC),λ_=>K6 h3 g3⟩
 | some d3=>
 have e3:eG l (a+1+1+1) 0=(d3,a+1+1+1+1,0):=Tf h3 g3;rw[e3];exact⟨λ_=>rfl,λh=>zar rfl h⟩
def afN (r:Nat) (v:Utf8.valid (r:Int)=false):(Utf8.encode (r:Int)).data.toList=[239,191,189]:=by
 simp[Utf8.encode,v,Utf8.runeError]
def VP (r:Nat):KP (r:Int)=encodeRune (r:Int):=by
 by_cases h:r<=1114111/\(r<55296\/57343<r)
 .exact R5 r h.1 h.2
 have v:Utf8.valid (r:Int)=false:=by simp[Utf8.valid];omega
 rw[Fe _ _ (afN r v)];unfold encodeRune;rw[encodeRuneZ_bad oM];rfl
def Qe {a:Nat} (ha:a<=l.length) (h:l[a]? =none):(jQ l a 0 c).2≠0:=by
 have :a=l.length:=by have:=zfy.1 h;omega
 unfold jQ dx;rw[zab sM,zac this];dsimp only
 split
 .decide
 exact nS 3
def MB {l:L8} {a:Nat} {x:UInt8} (h:l[a]? =some x) (iN:x≠c):(jQ l a 0 c).2≠0:=by
 unfold jQ;rw[yB h];dsimp only;rw[zab iN];exact nS 0
def Tg {l:L8} {a:Nat} (h:l[a]? =some c):jQ l a 0 c=(a+1,0):=by
 unfold jQ;rw[yB h];dsimp only;rw[zac rfl]
def acZ (c:UInt8):NY c=if c=47 then some 47 else J3 c:=by
 unfold NY J3
 by_cases h1:c=34
 .subst h1;rfl
 by_cases h2:c=92
 .subst h2;rfl
 by_cases h3:c=47
 .subst h3;rfl
 simp only[h1,h2,h3,if_false]
def anP:J3 0=none:=dC
def aiY {n:Nat} {g:Nat×Nat×Int} (h:g.2.2≠0):(acY l n g).2.2≠0:=h
def alG {n:Nat} {a:Nat×Int} (h:a.2≠0):(VL l n a).2.2≠0:=aiY (afM (anO h))
def alH {h:Nat×Nat×Int} (he:h.2.2≠0):(Y4 l h).2.2≠0:=by
 unfold Y4
 split
 .exact alG (anO he)
 exact he
attribute [local irreducible] nR jQ sD eG jg
def afO {r:Nat} (hi:i+6<=l.length) (hr:55296<=r):((aaj (l.drop i) r).2.2=0->VL l r (jQ l (i+6) 0 92)=((aaj (l.drop i) r).1,i+(aaj (l.drop i) r).2.1,0))/\((aaj (l.drop i) r).2.2≠0->(VL l r (jQ l (i+6) 0 92)).2.2≠0):=by
 have hd8:(l.drop i).drop 8=l.drop (i+8):=by rw[zfx]
 unfold aaj;rw[zci,zci,hd8];cases h6:l[i+6]? with
 | none=>exact⟨λh=>zar h (show ¬(3:Int)=0 from dC),λ_=>alG (Qe hi h6)⟩
 | some c6=>
 have hl6:=(zbb.1 h6).1;dsimp only
 by_cases g6:c6=92
 .subst g6
  rw[zab sM,Tg h6];cases h7:l[i+7]? with
  | none=>exact⟨λh=>zar h (show ¬(3:Int)=0 from dC),λ_=>aiY (afM (Qe (a:=i+7) oM h7))⟩
  | some c7=>
  have hl7:=(zbb.1 h7).1;dsimp only
  by_cases g7:c7=117
  .subst g7
   rw[zab sM];unfold VL;have e7:jQ l (i+6+1) 0 117=(i+8,0):=Tg h7;dsimp only;rw[e7];obtain⟨la,lb⟩:=VO (l:=l) (a:=i+8) (s:=true) oM
   by_cases he:(sD (l.drop (i+8)) true).2≠0
   .rw[zac he]
    exact⟨λh=>zar h he,λ_=>aiY (lb he)⟩
   rw[zab he];have hq:=la (zcr.1 he);dsimp only;rw[hq];refine⟨λ_=>?_,λh=>(h (by dsimp only)).elim⟩;unfold acY;dsimp only;rw[zab sM];have e:65536+1024*((r:Int)-55296)+((sD (l.drop (i+8)) true).1:Int)-56320=((65536+1024*(r-55296)+(sD (l.drop (i+8)) true).1-56320:Nat):Int):=oM;rw[e,VP]
  rw[zac g7];exact⟨λh=>zar h (show ¬(41:Int)=0 from dC),λ_=>aiY (afM (MB (a:=i+7) h7 g7))⟩
 rw[zac g6];exact⟨λh=>zar h (show ¬(41:Int)=0 from dC),λ_=>alG (MB h6 g6)⟩
def afP {s:Bool} (h:(sD l s).2=0):4<=l.length:=by
 unfold sD at h;cases h0:l[0]? with
 | none=>rw[h0]at h;cases h
 | some c0=>
 cases h3:l[3]? with
 | some c3=>have:=(zbb.1 h3).1;omega
 | none=>
  exfalso;simp only[h0,h3]at h
  repeat' split at h
  all_goals first | cases h | exact zar h dC
def aiZ (hi:i<l.length):((xV (l.drop i)).2.2=0->AA l (i+1) 0=((xV (l.drop i)).1,i+(xV (l.drop i)).2.1,0))/\((xV (l.drop i)).2.2≠0->(AA l (i+1) 0).2.2≠0):=by
 have Gq:(l.drop i).drop 2=l.drop (i+2):=by rw[zfx]
 unfold xV AA;rw[zci,Gq];cases h1:l[i+1]? with
 | none=>
  have e1:i+1=l.length:=by have:=zfy.1 h1;omega
  have e2:dx l (i+1) 0=(0,i+1,3):=by unfold dx;rw[zab sM,zac e1]
  refine⟨λh=>zar h (show ¬(3:Int)=0 from dC),λ_=>?_⟩;rw[e2];unfold Qd;dsimp only;rw[zab (show ¬(0:UInt8)=47 from dC),anP];exact alH (afM (by rw[zab (show ¬(0:UInt8)=117 from dC)];exact nS 3))
 | some c=>
 have hl1:=(zbb.1 h1).1;rw[yB h1];unfold Qd;dsimp only;rw[acZ]
 by_cases h47:c=47
 .rw[zac h47,zac h47]
  subst h47;exact⟨λ_=>by dsimp only,λh=>(h (by dsimp only)).elim⟩
 rw[zab h47,zab h47];cases hb:J3 c with
 | some k=>exact⟨λ_=>by dsimp only,λh=>(h (by dsimp only)).elim⟩
 | none=>
 dsimp only
 by_cases akh:c=117
 .rw[zab (by simp[akh]),zac akh]
  obtain⟨la,lb⟩:=VO (l:=l) (a:=i+2) (s:=false) oM
  by_cases he:(sD (l.drop (i+2)) false).2≠0
  .rw[zac he]
   exact⟨λh=>zar h he,λ_=>alH (lb he)⟩
  rw[zab he];have hh:=afP (zcr.1 he);rw[zbo]at hh;have hq:nR l (i+1+1) 0 false=((sD (l.drop (i+2)) false).1,i+6,0):=la (zcr.1 he);rw[hq];unfold Y4;dsimp only
  generalize (sD (l.drop (i+2)) false).1=r at hq
  by_cases hr:r<55296\/56319<r
  .rw[zac hr,zab oM,zab sM,VP]
   exact⟨λ_=>by dsimp only,λh=>(h (by dsimp only)).elim⟩
  rw[zab hr,zac oM];exact afO oM oM
 rw[zac akh,zab akh];exact⟨λh=>zar h (show ¬(41:Int)=0 from dC),λ_=>alH (afM (nS 0))⟩
end
section
def alI:jg 0 3=3:=rfl
def ac0 {l:L8}:(Uv l).1=if(jQ l 0 0 34).2=0 then(qj l (jQ l 0 0 34).1 []).1 else []:=by
 cases l with
 | nil=>rfl
 | cons c t=>
  by_cases h:c=34
  .subst h
   rw[Tg (l:=34::t) (a:=0) rfl,zac rfl];rfl
  rw[zab (MB (l:=c::t) (a:=0) rfl h)];show(if c≠34 then(([],0,41):L8×Nat×Int)else sF (t.length+1) t 1 []).1=[]
  rw[zac h]
def ac1 {out:L8} (h:i<l.length) (hc:l.getD i 0=34):(qj l i out).1=out:=by
 rw[EA h hc.symm,zac rfl]
def ai0 {l:L8} {out:L8} (h:i<l.length) (hc:l.getD i 0=92):((AA l (i+1) 0).2.2=0->(qj l i out).1=(qj l (AA l (i+1) 0).2.1 (out++(AA l (i+1) 0).1)).1)/\((AA l (i+1) 0).2.2≠0->(qj l i out).1=[]):=by
 obtain⟨ha,hb⟩:=aiZ h;have hs:=EA (out:=out) h hc.symm;rw[zab dC,zab dC,zac rfl]at hs
 by_cases he:(xV (l.drop i)).2.2=0
 .have hq:=ha he
  rw[zab (by simp[he])]at hs;rw[hs,hq];exact⟨λ_=>rfl,λh=>zar rfl h⟩
 rw[zac he]at hs;have hq:=hb he;rw[hs];exact⟨λh=>zar h hq,λ_=>rfl⟩
def ac2 {out:L8} (h:i<l.length) (h34:l.getD i 0≠34) (h92:l.getD i 0≠92):((nH l i).2.2=true->(qj l i out).1=(qj l (nH l i).2.1 (out++(nH l i).1)).1)/\((nH l i).2.2=false->(qj l i out).1=[]):=by
 have hs:=EA (out:=out) h rfl;rw[zab h34]at hs;unfold nH
 by_cases h32:(l.getD i 0).toNat<32
 .rw[zac h32]
  rw[zac (UInt8.lt_iff_toNat_lt.2 h32)]at hs;rw[hs];exact⟨λh=>by(dsimp only at h;cases h),λ_=>rfl⟩
 rw[zab h32];rw[zab (λh=>h32 (UInt8.lt_iff_toNat_lt.1 h)),zab h92]at hs;cases hn:ig (l.drop i)with
 | none=>
  rw[hn]at hs;rw[hs,zab sM];exact⟨λh=>by(dsimp only at h;cases h),λ_=>rfl⟩
 | some p=>
  obtain⟨r,n⟩:=p;have hnp:jW (l.drop i)=(r,n):=by unfold jW;rw[hn];rfl
  rw[hn,hnp,zac sM]at hs;rw[hs];exact⟨λ_=>rfl,λh=>by(dsimp only at h;cases h)⟩
def VQ (r:Int):(KP r).length<=4:=by
 unfold KP Utf8.encode;dsimp only
 repeat' split
 all_goals simp
attribute [local irreducible] nR jQ eG jg dx
def Y6 {l:L8} {a:Nat} {e:Int} (ha:a<=l.length):(AA l a e).1.length<=4/\(AA l a e).2.1<=l.length:=by
 have ht:=take_at (e:=e) ha;unfold AA Qd
 split
 .exact⟨sM,ht⟩
 split
 .exact⟨sM,ht⟩
 have hh:=R8 (e:=if(dx l a e).1=117 then(dx l a e).2.2 else jg (dx l a e).2.2 41) (s:=false) ht
 generalize nR l (dx l a e).2.1 (if(dx l a e).1=117 then(dx l a e).2.2 else jg (dx l a e).2.2 41) false=h at *
 unfold Y4
 split
 .refine⟨?_,R8 (Fg (Fg hh))⟩
  unfold VL acY;dsimp only
  split
  .simp
  exact VQ _
 refine⟨?_,hh⟩;dsimp only
 split
 .simp
 exact VQ _
def MC (l:L8) (a:Nat) (e:Int):a<=(dx l a e).2.1:=by
 unfold dx
 split
 .exact zbj _
 split
 .exact zbj _
 dsimp only;omega
def CK (l:L8) (a:Nat) (e:Int):a<=(eG l a e).2.1:=by
 unfold eG
 split<;>exact MC l a e
def VR (l:L8) (a:Nat) (e:Int) (s:Bool):a<=(nR l a e s).2.1:=by
 unfold nR;exact zda (zda (zda (CK l a e) (CK l _ _)) (CK l _ _)) (CK l _ _)
def VT (l:L8) (a:Nat) (e:Int) (c:UInt8):a<=(jQ l a e c).1:=by
 unfold jQ;exact MC l a e
def ai1 {l:L8} {a:Nat} {e:Int}:a<=(AA l a e).2.1:=by
 have ht:=MC l a e;unfold AA Qd
 split
 .exact ht
 split
 .exact ht
 have hh:=VR l (dx l a e).2.1 (if(dx l a e).1=117 then(dx l a e).2.2 else jg (dx l a e).2.2 41) false
 generalize nR l (dx l a e).2.1 (if(dx l a e).1=117 then(dx l a e).2.2 else jg (dx l a e).2.2 41) false=h at *
 unfold Y4
 split
 .unfold VL acY
  dsimp only;exact zda (zda (zda (zda ht hh) (VT l _ _ _)) (VT l _ _ _)) (VR l _ _ _)
 exact zda ht hh
def Ti {l:L8} (hi:i<l.length):(nH l i).1.length<=4*((nH l i).2.1-i)/\i<=(nH l i).2.1/\(nH l i).2.1<=l.length/\((nH l i).2.2=true->i<(nH l i).2.1):=by
 unfold nH
 split
 .exact⟨sM,zbj _,dO,λh=>by cases h⟩
 split
 .rename_i r n hn
  obtain⟨_,h1,h2,_⟩:=uw hn;rw[zbo]at h2;dsimp only;rw[zah,zbo];exact⟨oM,oM,oM,λ_=>oM⟩
 exact⟨sM,zbj _,dO,λh=>by cases h⟩
section
variable {w:Wd}
theorem VU (l:L8) (hl:l.length<=1000000) (hT:iB w):aR Tryz.prog 235 [str l] w λv w'=>(∃n e,v=.tuple #[str (Uv l).1,I n,I e])/\Kept noB w w':=by
 have H:=Sep.aF w;obtain⟨res,ak⟩: ∃res,res=(Uv l).1:=⟨_,rfl⟩;have Yg:=ak;rw[ac0]at ak;have Yc:=Fg (l:=l) (at_:=0) (e:=0) (c:=34) (zak _);rw[<-Yg];refine cK Tryz.func235 ?_;refine Zb4 ?_;refine Vb [str l,I 0,I 0] ?_;refine bB H (cs:=[str l,I 0,I 0]) rfl (h:=λb5 w7 H7 k6=>?_);refine Zb2 ?_;obtain⟨F0,eD,gV,aK⟩:=H7.focus At0;refine aL (Mt (l:=l) (at_:=0) (e:=0) 34 eD hl (zak _)) rfl rfl (λv' wa hv=>?_);obtain⟨rfl,bZ,F1,hq,hs⟩:=hv;have Ha:=aK _ F1 _ bZ hq hs;refine Az (λb6 wb Hb ka=>?_);replace Hb:=Sep.aiT Hb;refine Zb0 ?_;refine aI (λ_:Nat×Int×L8=>[(0,str l),(5,ay b5),(6,ay b6)]) (λx w'=>(x.1<=l.length/\x.2.2.length<=4*x.1/\res=if x.2.1=0 then(qj l x.1 x.2.2).1 else [])/\Sep w noB [vQ b6 x.2.2,sN b5 l x.1 x.2.1] w') (λx _=>if x.2.1=0 then l.length-x.1+1 else 0) ((jQ l 0 0 34).1,(jQ l 0 0 34).2,[]) tR ⟨⟨Yc,sM,ak⟩,Hb⟩ (λx τ wc hI=>?_);obtain⟨i,e,out⟩:=x;obtain⟨⟨hi,hol,dJ⟩,Hc⟩:=hI;dsimp only at hi hol dJ Hc;unfold sN at Hc;refine Lp ?_;refine Cz (λIe=>?_) (λIe=>?_)
 .have he0:e=0:=Ie
  subst he0;rw[zac rfl]at dJ;refine Cz (λIf=>?_) (λIf=>?_)
  .have jF:i=l.length:=oM
   have ah6:res=[]:=by rw[dJ,Rz oM]
   refine Zb1 ?_;obtain⟨F0,eD,gV,aK⟩:=Hc.focus At1;refine aL (oD (l:=l) (e:=0) 3 eD) rfl rfl (λv' wd hv=>?_);obtain⟨rfl,bZ,F1,hq,hs⟩:=hv;have Hd:=aK _ F1 _ bZ hq hs;rw[alI]at Hd;refine Zb0 ?_;exact aj (i,3,out) tR ⟨⟨hi,hol,by rw[ah6];rfl⟩,Hd⟩ (by show 0<(if(0:Int)=0 then _ else _);rw[zac rfl];omega)
  have aS:i<l.length:=oM;refine Cz (λIg=>?_) (λIg=>?_)
  .have Ih:l.getD i 0=34:=UInt8.toNat_inj.1 (by have h:=Ig;show(l.getD i 0).toNat=34;omega)
   rw[ac1 aS Ih]at dJ;refine Dz (λSa we He=>?_);refine Gm Sa 1 ?_;refine Zb4 ?_;obtain⟨F0,eD,gV,aK⟩:=He.focus At0;refine qG Sa 0 [(5,true),(4,false),(3,true),(2,true),(1,true)] rfl kR (CG eD oM) rfl kR kR (λv' wf hv=>?_);obtain⟨rfl,bZ,F1,hq,hs⟩:=hv;have Hf:=aK _ F1 _ bZ hq hs;refine⟨sL,?_⟩;refine Gp Sa 6 rfl rfl (λ_=>Gives.assign rfl) (Zb2 ?_);exact⟨⟨_,_,by rw[dJ];rfl⟩,Hf.kept⟩
  have Ih:l.getD i 0≠34:=λh=>Ig (by rw[h];rfl);refine Cz (λIi=>?_) (λIi=>?_)
  .have Ij:l.getD i 0=92:=UInt8.toNat_inj.1 (by have h:=Ii;show(l.getD i 0).toNat=92;omega)
   obtain⟨lq,p8⟩:=ai0 (out:=out) aS Ij;rw[<-dJ]at lq p8;obtain⟨EL,hb2⟩:=Y6 (l:=l) (a:=i+1) (e:=0) oM;have aki:=ai1 (l:=l) (a:=i+1) (e:=0);obtain⟨q,hq⟩: ∃q,q=AA l (i+1) 0:=⟨_,rfl⟩;rw[<-hq]at lq p8 EL hb2 aki
   have hif:res=if q.2.2=0 then(qj l q.2.1 (out++q.1)).1 else []:=by
    split
    .exact lq (by assumption)
    exact p8 (by assumption)
   refine Zb4 ?_;refine Vc ((i+1:Nat):Int) ?_;refine Uz (λwg Hg=>?_);refine Zb1 ?_;obtain⟨F0,eD,gV,aK⟩:=Hg.focus At1;refine aL (Y5 (l:=l) (at_:=i+1) (e:=0) eD hl oM) rfl rfl (λv' wh hv=>?_);obtain⟨rfl,bZ,F1,hq',hs⟩:=hv;have Hh:=aK _ F1 _ bZ hq' hs;rw[<-hq];rw[<-hq]at Hh;obtain⟨F0,eD,gV,aK⟩:=Hh.focus At0;refine aL (sO eD oM) rfl rfl (λv' wi hv=>?_);obtain⟨rfl,bZ,F1,hq',hs⟩:=hv;have Hi:=aK _ F1 _ bZ hq' hs;refine Zb0 ?_;exact aj (q.2.1,q.2.2,out++q.1) tR ⟨⟨hb2,by dsimp only;rw[zad];omega,hif⟩,Hi⟩ (by dsimp only;rw[zac rfl];split<;>omega)
  have Ij:l.getD i 0≠92:=λh=>Ii (by rw[h];rfl);obtain⟨lq,p8⟩:=ac2 (out:=out) aS Ih Ij;rw[<-dJ]at lq p8;obtain⟨EL,hb3,hb2,aki⟩:=Ti aS;obtain⟨q,hq⟩: ∃q,q=nH l i:=⟨_,rfl⟩;rw[<-hq]at lq p8 EL hb2 hb3 aki;refine Zb1 ?_;obtain⟨F0,eD,gV,aK⟩:=Hc.focus At1;refine aL (acR (l:=l) (at_:=i) eD hl aS (hT.keep Hc.kept).utf) rfl rfl (λv' wj hv=>?_);obtain⟨x1,rfl,hx1,bZ,F1,hq',hs⟩:=hv;have Hj:=aK _ F1 _ bZ hq' hs;rw[<-hq]at hx1;rw[<-hq];rw[<-hq]at Hj
  have hif:res=if x1=0 then(qj l q.2.1 (out++q.1)).1 else []:=by
   split
   .exact lq (hx1.2 (by assumption))
   rename_i h0;cases hb:q.2.2 with
   | true=>exact zar (hx1.1 hb) h0
   | false=>exact p8 hb
  have hms:(if x1=0 then l.length-q.2.1+1 else 0)<l.length-i+1:=by
   split
   .have:=aki (hx1.2 (by assumption));omega
   omega
  obtain⟨F0,eD,gV,aK⟩:=Hj.focus At0;refine aL (sO eD oM) rfl rfl (λv' wk hv=>?_);obtain⟨rfl,bZ,F1,hq',hs⟩:=hv;have Hk:=aK _ F1 _ bZ hq' hs;refine Zb0 ?_;exact aj (q.2.1,x1,out++q.1) tR ⟨⟨hb2,by dsimp only;rw[zad];omega,hif⟩,Hk⟩ (by dsimp only;rw[zac rfl];exact hms)
 have ah6:res=[]:=by rw[dJ,zab Ie]
 refine Dz (λSb wl Hl=>?_);refine Zb7 ?_;exact⟨⟨_,_,by rw[ah6];rfl⟩,Hl.kept⟩
end
end
open Go.Proofs.Tryz
def Y7 {w:L8} {k:Int} (hw:w≠[]) (h1:1<=k) (h5:k<=5) (h: ∀j:Int,1<=j->j<k->oh j≠w) (hk:oh k=w):[1,3,4,5].find? (λk:Int=>decide (oh k=w))=some k:=by
 have hd: ∀j:Int,1<=j->j<k->decide (oh j=w)=false:=λj a b=>zal (h j a b);have Oz:decide (oh k=w)=true:=zap hk
 rcases (by omega :k=1\/k=2\/k=3\/k=4\/k=5)with e | e | e | e | e<;>subst e
 .simp only[zch,Oz]
 .exact zar hk.symm hw
 .simp only[zch,hd 1 oM oM,Oz]
 .simp only[zch,hd 1 oM oM,hd 3 oM oM,Oz]
 simp only[zch,hd 1 oM oM,hd 3 oM oM,hd 4 oM oM,Oz]
def Y8 {w:L8} (h: ∀k:Int,1<=k->k<6->oh k≠w):[1,3,4,5].find? (λk:Int=>decide (oh k=w))=none:=by
 rw[zfp];intro k hk;simp only[zba,zan,or_false]at hk;have:=h k oM oM;simpa using this
def ac3:[1,3,4,5].find? (λk:Int=>decide (oh k=[]))=none:=dC
def Y9 (w:L8) (c:UInt8):Lib.hasPrefix w [c]=decide (w.head?=some c):=by
 unfold Lib.hasPrefix;cases w with
 | nil=>rfl
 | cons x t=>
  by_cases h:c=x
  .subst h;simp[List.isPrefixOf]
  have h': ¬x=c:=λe=>h e.symm;simp[List.isPrefixOf,h,h']
def ai2 {p:L8->Bool} (h:lN.findIdx? p=some i):lN[i]? =lN[i]? /\i<12:=by
 obtain⟨h1,_⟩:=zcu.1 h;exact⟨rfl,h1⟩
section
variable {w:Wd}
def J4 (l:L8) (hl:l.length<=1000000) (hT:iB w):aR prog 234 [str l,I 10,I 64] w λv w'=>(∃e,v=.tuple #[I (mR l),e])/\Kept noB w w':=by
 have hs:(⟨l.toArray⟩:ByteArray).size=l.length:=Mw.size_mk l;cases h:Lib.parseIntB 64 l
 .rename_i v
  have hn:mR l=v:=by unfold mR;rw[h]
  rw[hn]
  exact Calls.mono (Tryz.strconv_ParseInt_10_at64_ok ⟨l.toArray⟩ (by rw[hs];omega) v h w) λe w' he=>by
   obtain⟨rfl,hw⟩:=he;refine⟨⟨_,rfl⟩,?_⟩
   rcases hw with rfl | ⟨t,rfl⟩
   .exact Kept.refl _ _
   exact Kept.of_below (Lib.bytesWorld_below _ _ _)
 .skip
  have hn:mR l=0:=by unfold mR;rw[h]
  rw[hn];obtain⟨tp,p,hv⟩:=hT.syn
  exact Calls.mono (Tryz.strconv_ParseInt_10_at64_syntax_var ⟨l.toArray⟩ (by rw[hs];omega) h rfl tp p w hv) λe w' he=>by
   obtain⟨N,rfl,_,_,hb⟩:=he;exact⟨⟨_,rfl⟩,Kept.of_below hb⟩
 skip;have hn:mR l=Lib.intSat 64 l:=by unfold mR;rw[h]
 rw[hn];obtain⟨tp,p,hv⟩:=hT.ran
 exact Calls.mono (Tryz.strconv_ParseInt_10_at64_range_var ⟨l.toArray⟩ (by rw[hs];omega) h tp p w hv) λe w' he=>by
  obtain⟨N,rfl,_,_,hb⟩:=he;exact⟨⟨_,rfl⟩,Kept.of_below hb⟩
def zC (l:L8) (c:UInt8):aR prog 233 [str l,str [c]] w λv w'=>v=.bool (decide (l.head?=some c))/\w=w':=
 j6 (by
  have:=Tryz.strings_HasPrefix ⟨l.toArray⟩ ⟨[c].toArray⟩ w;rw[<-Y9];exact this)
theorem ac4 (s:L8) (hl:s.length<=1000000) (hT:iB w):Rk prog 158 [str s] w (agg (aM (fA s))):=by
  have H:=Sep.aF w;obtain⟨res,ak⟩: ∃res,res=fA s:=⟨_,rfl⟩;rw[<-ak];unfold fA at ak;obtain⟨ix,hix⟩: ∃ix,ix=lN.findIdx? (λx=>decide (x=s)):=⟨_,rfl⟩
  have aqN:lN.findIdx? (λy=>decide (s=y))=ix:=by
    rw[hix];exact zaw (λp=>lN.findIdx? p) (funext λy=>zbf.2 eq_comm)
  rw[<-hix]at ak;refine oV func158 ?_;refine Az (λb1 _ S _=>?_);refine Zb0 ?_;refine aL (VD) rfl rfl (λv' d hv=>?_);obtain⟨bs,rfl,_,bZ,F1,hq,iA⟩:=hv;have f:=S.new bZ hq (λb hb=>(iA b hb).resolve_left id);have hR:Rd d (some ⟨bs,0,none⟩) gN 1 lN:=Sep.lK f At0 rfl;have hRI:aJ d (.slice (some ⟨bs,0,none⟩) 12 12) gN 1 lN:=⟨some ⟨bs,0,none⟩,12,rfl,⟨zbj _,dC⟩,hR⟩;refine Mv ?_;refine Kz (acz s hRI) (λ_ f _=>?_);rw[aqN];refine Cz (λd=>?_) (λd=>?_)
  . obtain⟨i,hi⟩: ∃i:Nat,ix=some i:=by
      cases ix with
      | some i=>exact⟨i,rfl⟩
      | none=>exact zar d dC
    have aqO:zq ix=(i:Int):=by rw[hi];rfl
    rw[hi]at ak;dsimp only at ak;refine Zb1 ?_;rw[aqO];refine Vv (Gives.RQ (c:=(7+(i:Int))) rfl rfl rfl (by have:=(ai2 (hix.symm.trans hi)).2;omega)) (Vb (aM ⟨7+(i:Int),0,[]⟩) ?_);refine Tz (λ_ S=>?_);refine Zb0 ?_;exact⟨_,fB S,by rw[ak];rfl,S.kept⟩
  have hi:ix=none:=by
    cases ix with
    | none=>rfl
    | some i=>exact zar (show zq (some i)≥0 from Int.natCast_nonneg i) d
  rw[hi]at ak;dsimp only at ak;refine Zb1 ?_;refine aI (λk:Nat=>[(0,str s),(2,.pointer (some ⟨b1,0,none⟩)),(4,I k)]) (λk w'=>(1<=k/\k<=6/\∀j:Int,1<=j->j<k->s≠[]->oh j≠s)/\Sep w noB [blk b1 (aM ⟨0,0,[]⟩) 97] w') (λk _=>6-k) 1 tR ⟨⟨zbj _,dC,λj a b=>zar b oM⟩,(f.aG).firsts (l:=[_])⟩ (λk τ _ hI=>?_);obtain⟨⟨lI,hk6,hnb⟩,S⟩:=hI;refine Lp ?_;refine Cz (λd=>?_) (λd=>?_)
  . refine Sz (λd=>?_) (λd=>?_)
    . have f:s≠[]:=d
      refine Kz (RY (k:Int)) (λ_ g _=>?_);refine Cz (λm=>?_) (λm=>?_)
      . have hfn:[1,3,4,5].find? (λk:Int=>decide (oh k=s))=some (k:Int):=Y7 f oM oM (λj a b=>hnb j a b f) (Eq.symm m)
        rw[hfn]at ak;dsimp only at ak;refine Zb1 ?_;refine Vb (aM ⟨6,(k:Int),[]⟩) ?_;refine Tz (λ_ n=>?_);refine Zb0 ?_;exact⟨_,fB n,by rw[ak];rfl,n.kept⟩
      have hnk:s≠[]->oh (k:Int)≠s:=λ_ h=>m h.symm;refine Zb1 ?_;refine Vc ((k+1:Nat):Int) ?_;refine Zb1 ?_;exact aj (k+1) tR ⟨⟨oM,oM,λj a b h0=>by
      by_cases e:j=k
      . rw[e];exact hnk h0
      exact hnb j a oM h0⟩,g⟩ oM
    have f:s=[]:=zcr.1 d;have hnk:s≠[]->oh (k:Int)≠s:=λh=>zar f h;refine Zb2 ?_;refine Vc ((k+1:Nat):Int) ?_;refine Zb1 ?_;exact aj (k+1) tR ⟨⟨oM,oM,λj a b h0=>by
    by_cases e:j=k
    . rw[e];exact hnk h0
    exact hnb j a oM h0⟩,S⟩ oM
  have hk:k=6:=oM
  have hfn:[1,3,4,5].find? (λk:Int=>decide (oh k=s))=none:=by
    by_cases h0:s=[]
    . rw[h0];exact ac3
    exact Y8 λj a b=>hnb j a oM h0
  rw[hfn]at ak;dsimp only at ak;refine Cz (λn=>?_) (λn=>?_)
  . rw[zac (show s=abY from n)]at ak
    refine Sr (Vb (aM ⟨3,1,[]⟩) ?_);refine Tz (λ_ m=>?_);refine Zb0 ?_;exact⟨_,fB m,by rw[ak];rfl,m.kept⟩
  rw[zab (show ¬s=abY from n)]at ak;refine Cz (λm=>?_) (λm=>?_)
  . rw[zac (show s=Uw from m)]at ak
    refine Sr (Vb (aM ⟨3,0,[]⟩) ?_);refine Tz (λ_ n=>?_);refine Zb0 ?_;exact⟨_,fB n,by rw[ak];rfl,n.kept⟩
  rw[zab (show ¬s=Uw from m)]at ak;refine Zb1 ?_;refine eB (zC s 35) (h:=?_);refine Am ?_;refine Cz (λn=>?_) (λn=>?_)
  . have hh:s.head?=some 35:=n
    rw[zac hh]at ak;refine Zb1 ?_;refine Vv (Gives.pW (i:=1) rfl rfl (by cases s with | nil=>cases hh | cons a b=>simp)) (aL (J4 (s.drop 1) (by rw[zbo];omega) (hT.keep S.kept)) rfl rfl (λv' _ hv=>?_));obtain⟨⟨er,rfl⟩,bZ⟩:=hv;have m:=S.keep bZ;refine Zb6 ?_;refine Vb (aM ⟨1,mR (s.drop 1),[]⟩) ?_;refine Tz (λ_ m=>?_);refine Zb0 ?_;exact⟨_,fB m,by rw[ak];rfl,m.kept⟩
  rw[zab (show ¬s.head?=some 35 from n)]at ak;refine Zb1 ?_;refine eB (zC s 34) (h:=?_);refine Am ?_;refine Cz (λm=>?_) (λm=>?_)
  . rw[zac (show s.head?=some 34 from m)]at ak
    refine Zb1 ?_;refine aL (VU s hl (hT.keep S.kept)) rfl rfl (λv' _ hv=>?_);obtain⟨⟨nn,er,rfl⟩,bZ⟩:=hv;have n:=S.keep bZ;refine Zb8 ?_;refine Vb (aM ⟨4,0,(Uv s).1⟩) ?_;refine Tz (λ_ n=>?_);refine Zb0 ?_;exact⟨_,fB n,by rw[ak];rfl,n.kept⟩
  rw[zab (show ¬s.head?=some 34 from m)]at ak;refine Zb1 ?_;refine eB (zC s 120) (h:=?_);refine Am ?_;refine Cz (λn=>?_) (λn=>?_)
  . have hh:s.head?=some 120:=n
    rw[zac hh]at ak;refine Sr (Vb (aD iD) ?_);refine Mv ?_;refine aL (YZ s hl hh (hT.keep S.kept).utf) rfl rfl (λv' _ hv=>?_);obtain⟨⟨er,rfl⟩,bZ⟩:=hv;have m:=S.keep bZ;refine Az (λb129 _ _ _=>?_);refine Tz (λ_ _=>?_);refine Zb3 ?_;refine Vb (aM ⟨5,0,Gd s⟩) ?_;refine Tz (λ_ m=>?_);refine Zb0 ?_;exact⟨_,fB m,by rw[ak];rfl,m.kept⟩
  rw[zab (show ¬s.head?=some 120 from n)]at ak;refine Zb1 ?_;refine aL (J4 s hl (hT.keep S.kept)) rfl rfl (λv' _ hv=>?_);obtain⟨⟨er,rfl⟩,bZ⟩:=hv;have m:=S.keep bZ;refine Zb6 ?_;refine Vb (aM ⟨2,mR s,[]⟩) ?_;refine Tz (λ_ m=>?_);refine Zb0 ?_;exact⟨_,fB m,by rw[ak];rfl,m.kept⟩
end
def yC (h:Lib.indexByte l 32= -1):cB 32 l=[l]:=
 Ew λc hc e=>by
  obtain⟨k,hk⟩:=zdb hc;exact Lib.indexByte_none h k (by rw[hk,e])
def GY {o:Nat} (h:Lib.indexByte l 32=o):o<l.length/\cB 32 l=l.take o::cB 32 (l.drop (o+1)):=by
 obtain⟨h1,h2⟩:=Lib.indexByte_some h;have aS:=(zbb.1 h1).1
 have e:l=l.take o++32::l.drop (o+1):=by
  have e1:l.drop o=32::l.drop (o+1):=by
   rw[zbn aS]
   congr 1
   rw[zaa aS]at h1;injection h1
  conv=>lhs;rw[<-zbs o l,e1]
 refine⟨aS,?_⟩
 have:=JG (sep:=32) (w:=l.take o) (l:=l.drop (o+1)) λc hc e=>by
  obtain⟨k,hk⟩:=zdb hc;rw[zcs]at hk
  split at hk
  .exact h2 k oM (by rw[hk,e])
  cases hk
 rw[<-this,<-e]
section
variable {w:Wd}
def VW (l:L8):aR prog 230 [str l,str [32]] w λv w'=>v=I (Lib.indexByte l 32)/\w=w':=
 j6 (Tryz.strings_Index_one ⟨l.toArray⟩ 32 w)
def Zb {S:NP} {w0:Wd} {J:List (L8)->HP} {L:List (L8)->L8->HP} {l D:Nat} {ro rj:Obj} {bP bS bV:Nat} {s:L8} (hl:s.length<=1000000)
    (HW:Sep w0 S [obj l ro,obj D (.deferred (some [])),J [],blk bP [str [32]] 9,blk bS [str s] 9,blk bV [I 0] 3] w)
    (hy: ∀(pre:List (L8)) (x:L8) (Fr:List HP) (W:Wd),pre++[x]<+:cB 32 s->Sep w0 S (obj l ro::obj D (.deferred (some []))::J pre::Fr) W->Uh prog l [str x] W λb W'=>if b=true then Sep w0 S (obj l ro::obj D (.deferred (some []))::J (pre++[x])::Fr) W' else Sep w0 S [obj l rj,obj D (.deferred (some [])),L pre x] W'):
    aR prog 272 [.func (.yield l) #[] #[],ay bP,ay bS,ay bV] w λ_ W'=>Sep w0 S [obj l ro,obj D (.deferred (some [])),J (cB 32 s)] W'\/∃pre x,pre++[x]<+:cB 32 s/\Sep w0 S [obj l rj,obj D (.deferred (some [])),L pre x] W':=by
  have H:=HW;refine yg func272 ?_;refine Cz (λk=>?_) (λk=>?_)
  . exact zar k dC
  refine Zb0 ?_;refine aI (λ_:List (L8)×L8=>[(0,.func (.yield l) #[] #[]),(1,ay bP),(2,ay bS),(3,ay bV)]) (λx w'=>(x.1++cB 32 x.2=cB 32 s/\x.2.length<=s.length)/\Sep w0 S [obj l ro,obj D (.deferred (some [])),J x.1,blk bP [str [32]] 9,blk bS [str x.2] 9,blk bV [I 0] 3] w') (λx _=>x.2.length) ([],s) tR ⟨⟨rfl,zbj _⟩,H⟩ (λx τ _ hI=>?_);obtain⟨pre,t⟩:=x;obtain⟨⟨D7,AJ⟩,k⟩:=hI;dsimp only at D7 AJ k;refine Lp ?_;refine Zb2 ?_;refine eB (VW t) (h:=?_);refine Cz (λa=>?_) (λa=>?_)
  . have Ym:Lib.indexByte t 32= -1:=by have h1:=a;have h2:=Lib.indexByte_ge t 32;omega
    have jA:pre++[t]<+:cB 32 s:=by rw[<-D7,yC Ym];exact List.prefix_refl _
    have jE:pre++[t]=cB 32 s:=by rw[<-D7,yC Ym]
    refine Zb2 ?_;refine Db rfl (hy pre t _ _ jA k) rfl rfl (λb8 _ UM=>?_);refine Zb0 ?_;cases b8 with
    | true=>rw[zac rfl]at UM;rw[<-jE];exact .inl (UM.firsts (l:=[_,_,_]))
    | false=>rw[zab dC]at UM;exact .inr ⟨pre,t,jA,UM⟩
  obtain⟨o,ho⟩: ∃o:Nat,Lib.indexByte t 32=o:=⟨(Lib.indexByte t 32).toNat,by have h1:=a;omega⟩;obtain⟨aqP,hot⟩:=GY ho
  have jA:pre++[t.take o]<+:cB 32 s:=by
    rw[<-D7,hot];exact⟨cB 32 (t.drop (o+1)),sM⟩
  rw[ho];refine Zb3 ?_;refine Vc (o:Int) ?_;refine Vv (Gives.sw (i:=o) rfl rfl oM) (Zb3 ?_);refine Db rfl (hy pre (t.take o) _ _ jA k) rfl rfl (λb8 _ UM=>?_);refine Za1 ?_;refine Qn (Cd rfl (λa=>?_) (λa=>?_))
  . have hb:b8=false:=by have h1:=a;revert h1;cases b8<;>simp
    rw[hb,zab dC]at UM;refine Zb0 ?_;exact .inr ⟨pre,t.take o,jA,UM⟩
  have hb:b8=true:=by have h1:=a;revert h1;cases b8<;>simp
  rw[hb,zac rfl]at UM;have a:=UM;refine Zb4 ?_;refine Vv (Gives.RQ (c:=((o+1:Nat):Int)) rfl rfl (by show(o:Int)+1=_;omega) oM) (Vv (Gives.pW (i:=o+1) rfl rfl oM) ?_);refine Uz (λ_ a=>?_);refine Zb0 ?_;exact aj (pre++[t.take o],t.drop (o+1)) tR ⟨⟨by dsimp only;rw[<-D7,hot];simp,by dsimp only;rw[zbo];omega⟩,a⟩ (by dsimp only;rw[zbo];omega)
end
def Fp {P:Program} {T:Td} [h1:OneCell P T] {w:Wd} {v:Value} {E:Td} (hb:w.heap[b]? =some (.cells [v].toArray E (0,0))):(loadVar T ⟨b,0,none⟩).run P w=.ok v w:=by
 have hc:w.cell? ⟨b,0,none⟩=some v:=jP hb 0;simp[loadVar,h1.agg,hc]
def VX {P:Program} {T U:Td} [OneCell P T] [OneCell P U] {σ:St} {w:Wd} {x y:Nat} {v u:Value} {E F:Td} (hx:w.heap[x]? =some (.cells [v].toArray E (0,0))) (hy:w.heap[y]? =some (.cells [u].toArray F (0,0)))
    (ha:σ a=.pointer (some ⟨x,0,none⟩):=by exact rfl) (hb:σ b=.pointer (some ⟨y,0,none⟩):=by exact rfl):qJ P σ w [.cell a T,.cell b U] [v,u]:=
  ⟨v,[u],⟨x,0,none⟩,rfl,ha,Fp hx,u,[],⟨y,0,none⟩,rfl,hb,Fp hy,rfl⟩
def VY: ∀(l:L8),∀w∈cB 32 l,w.length<=l.length
 | [],w,h=>by
  have :w=[]:=by simpa[cB]using h
  rw[this];simp
 | c::l,w,h=>by
  have ih:=VY l
  by_cases hc:c=32
  .rw[cB,zac hc]at h
   rcases zba.1 h with rfl | h
   .simp
   have:=ih w h;simp only[zas];omega
  obtain⟨H,ws,e1,e2⟩:=pX (sep:=32) (l:=l) hc;rw[e2]at h;rw[e1]at ih
  rcases zba.1 h with rfl | h
  .have:=ih H sM
   simp only[zas];omega
  have:=ih w (zat _ h);simp only[zas];omega
def vZ (w:L8):fits (fA w).n:=by
 unfold fA fits
 split
 .dsimp only;omega
 split
 .rename_i k hk
  have:=zev hk;simp at this;dsimp only;omega
 repeat' split
 all_goals first | exact KA _ | (dsimp only;omega)
def J5: ∀{ws:List (L8)},(∀y∈ws,sG (fA y) y=true)->readAll ws=some (ws.map fA)
 | [],_=>rfl
 | w::ws,h=>by
  rw[readAll,zac (h w sM),J5 λy hy=>h y (zat _ hy)];rfl
def J6: ∀{ws:List (L8)} {x:L8},x∈ws->sG (fA x) x=false->readAll ws=none
 | w::ws,x,hm,hb=>by
  rw[readAll]
  split
  .rename_i hg
   rcases zba.1 hm with rfl | hm
   .rw[hb]at hg;cases hg
   rw[J6 hm hb];rfl
  rfl
def afQ (b:Nat) (l:List bI):HP:=exH λv=>star (blk b [v] 23) (aY 97 3 aM v l)
def alJ (b2 b3 b4:Nat) (pre:List (L8)):HP:=jf [jB (∀y∈pre,sG (fA y) y=true),blk b2 [.slice none 0 0] 23,blk b3 [I 0] 29,afQ b4 (pre.map fA)]
def apW (b2 b3:Nat) (_:List (L8)) (x:L8):HP:=jf [jB (sG (fA x) x=false),blk b2 [.slice none 0 0] 23,blk b3 [I 4] 29]
section
variable {w:Wd}
def VZ (s:L8):aR Tryz.prog 231 [str s,str [32],I 0] w λv w'=>∃x:Nat×Nat×Nat,v=.func (.func 272) #[] #[ay x.1,ay x.2.1,ay x.2.2]/\True/\Turn noB (star (blk x.1 [str [32]] 9) (star (blk x.2.1 [str s] 9) (blk x.2.2 [I 0] 3))) w w':=by
 have H:=Sep.aF w;refine AP Tryz.func231 ?_;refine Sr (bB H (h:=λb1 _ k _=>?_));refine bB k (h:=λb3 _ k _=>?_);refine bB k (h:=λb5 _ k _=>?_);refine Zb1 ?_;refine Vv (Gives.makeFunc (fs:=[]) (us:=[]) (cs:=[.tmp 4,.tmp 3,.tmp 5]) rfl rfl) (Zb1 ?_);exact⟨(b3,b1,b5),rfl,trivial,(Sep.aQ (Sep.aG (Sep.aQ k.aN))).turn⟩
def V3 (s:L8):aR Tryz.prog 157 [str s,str [32]] w λv w'=>∃x:Nat×Nat×Nat,v=.func (.func 272) #[] #[ay x.1,ay x.2.1,ay x.2.2]/\True/\Turn noB (star (blk x.1 [str [32]] 9) (star (blk x.2.1 [str s] 9) (blk x.2.2 [I 0] 3))) w w':=by
 have H:=Sep.aF w;refine bQ Tryz.func157 ?_;refine Zb3 ?_;refine aL (VZ s) rfl rfl (λv' _ hv=>?_);obtain⟨x,rfl,_,bZ,F1,hq,iA⟩:=hv;have k:=H.new bZ hq (λb hb=>(iA b hb).resolve_left id);refine Zb1 ?_;exact⟨x,rfl,trivial,k.turn⟩
def V4 (l:L8):aR Tryz.prog 156 [str l,str [32]] w λv w'=>v=I ((l.count 32:Nat):Int)/\w=w':=
 j6 (Tryz.strings_Count_one ⟨l.toArray⟩ 32 w)
theorem ac5 (s:L8) (hl:s.length<=1000000\/1048576<s.length) (Ye:s.length<=1000000000) (hT:iB w):aR Tryz.prog 117 [str s] w λv w'=>∃x,v=.tuple #[x,I (d9 s).2]/\True/\Turn noB (aY 97 3 aM x (d9 s).1) w w':=by
  have H:=Sep.aF w;obtain⟨res,ak⟩: ∃res,res=d9 s:=⟨_,rfl⟩;rw[<-ak];unfold d9 at ak;refine aht Tryz.func117 ?_;refine Az (λb1 _ _ _=>?_);refine Az (λb3 _ _ _=>?_);refine Sz (λk=>?_) (λk=>?_)
  . rw[zac (.inl oM)]at ak
    refine Uz (λ_ _=>?_);refine Uz (λ_ k=>?_);refine Qn (Rs (Ga (h:=?_)));exact⟨[.slice none 0 0,I 5],VX (k.obj At1) (k.obj At0),.slice none 0 0,by rw[ak];rfl,trivial,by rw[ak];exact(Sep.iW k 97 3 aM).first.turn⟩
  have rG:s.length<=1000000:=oM;have UZ:=UF s 32;refine Zb1 ?_;refine eB (V4 s) (h:=?_);refine Cz (λk=>?_) (λk=>?_)
  . rw[zac (.inr oM)]at ak
    refine Uz (λ_ _=>?_);refine Uz (λ_ k=>?_);refine Qn (Rs (Ga (h:=?_)));exact⟨[.slice none 0 0,I 5],VX (k.obj At1) (k.obj At0),.slice none 0 0,by rw[ak];rfl,trivial,by rw[ak];exact(Sep.iW k 97 3 aM).first.turn⟩
  have k:s.count 32<64:=oM;rw[zab oM]at ak;refine Cz (λk=>?_) (λk=>?_)
  . rw[zac k]at ak
    refine Uz (λ_ _=>?_);refine Uz (λ_ S=>?_);refine Qn (Rs (Ga (h:=?_)));exact⟨[.slice none 0 0,I 0],VX (S.obj At1) (S.obj At0),.slice none 0 0,by rw[ak];rfl,trivial,by rw[ak];exact(Sep.iW S 97 3 aM).first.turn⟩
  rw[zab k]at ak;refine Az (λb4 _ S _=>?_);refine Zb1 ?_;refine aL (V3 s) rfl rfl (λv' k hv=>?_);obtain⟨⟨bP,bS,bV⟩,rfl,_,bZ,F1,hq,iA⟩:=hv;dsimp only at hq;have a:=S.new bZ hq (λb hb=>(iA b hb).resolve_left id);refine Zb0 ?_;have hcs:=xI 32 s
  have HJ:Mw.Sep w noB (alJ b1 b3 b4 []::[blk bP [str [32]] 9,blk bS [str s] 9,blk bV [I 0] 3]) k:=by
    have h1:=(Sep.iW a 97 3 aM).aN;have h4:=Sep.uF (p:=λv=>star (blk b4 [v] 23) (aY 97 3 aM v [])) (.slice none 0 0) (Sep.aQ h1);have h7:=Sep.bundle (l:=[jB (∀y∈([]:List (L8)),sG (fA y) y=true),_,_,_]) (rs:=[_]) (Sep.lu (λy hy=>zar hy zan) h4.aN.aX);exact h7.aG.bL.aG.bL.aX.aX.akO
  refine Ro (gf:=272) (lb:=[ay bP,ay bS,ay bV]) str (cB 32 s) (alJ b1 b3 b4) (apW b1 b3) _ HJ rfl rfl ?_ ?_ ?_ ?_
  . intro l D ro rb pre x Fr W jA HW
    have hxm:x∈cB 32 s:=jA.subset (zct pre (zau.2 rfl));have hxl:x.length<=1000000:=zda (VY s x hxm) rG;have Py:pre.length+1<=64:=by have:=jA.length_le;rw[zad,zae]at this;omega
    have Gy:(pre.map fA).length=pre.length:=zaf _;have hmp:(pre++[x]).map fA=pre.map fA++[fA x]:=by rw[zai];rfl
    refine Za1 ?_;refine xK (qI ?_);refine⟨[],HW,λWB HB=>?_⟩;have HB2:Mw.Sep w noB (obj l rb::obj D (.deferred (some []))::alJ b1 b3 b4 pre::Fr) WB:=HB;replace HB2:=(HB2.aN).parts;obtain⟨Ch,HB3⟩:=HB2.tC;obtain⟨v4,HB4⟩:=(Sep.aN HB3).ex0;replace HB:=HB4.bL;obtain⟨B4,cb,rfl,OO,hB4⟩:=Sep.bJ HB At1;refine Zb1 ?_;refine WJ HB (ac4 x hxl (hT.keep HB.kept)) (h:=λ_ _ _=>?_);refine Az (λb6 _ _ _=>?_);refine Tz (λ_ a=>?_);refine Kz (YM (fA x) (vZ x) (hT.keep a.kept).utf) (λ_ a _=>?_);refine Zb2 ?_;refine dH (t:=25) rfl (λk=>?_) (λk=>?_)
    . have jN:sG (fA x) x=false:=by
        have h1:=k;unfold sG
        revert h1
        cases dP (fA x)<;>simp
      refine Uz (λ_ _=>?_);refine Uz (λ_ S=>?_);refine Qn (Rs (uy (zV ?_)));exact(Sep.bundle (l:=[jB (sG (fA x) x=false),_,_]) (rs:=[_,_]) (Sep.lu jN ((S.jZ.jZ.jZ.jZ).firsts (l:=[_,_,_,_])))).FZ
    have Ye:dP (fA x)=true:=by have h1:=k;revert h1;cases dP (fA x)<;>simp
    refine Kz (VE (fA x) Ye (vZ x) (hT.keep a.kept)) (λ_ S _=>?_);refine Cz (λk=>?_) (λk=>?_)
    . have jN:sG (fA x) x=false:=by
        unfold sG;rw[Ye,zal (show ¬gU (fA x)=x from k)];rfl
      refine Uz (λ_ _=>?_);refine Uz (λ_ a=>?_);refine Qn (Rs (uy (zV ?_)));exact(Sep.bundle (l:=[jB (sG (fA x) x=false),_,_]) (rs:=[_,_]) (Sep.lu jN ((a.jZ.jZ.jZ.jZ).firsts (l:=[_,_,_,_])))).FZ
    have hgx:sG (fA x) x=true:=JF.2 ⟨Ye,zcr.1 k⟩;refine Zb2 ?_;refine Bs S ([fA x].flatMap aM) (λbs _ a _=>?_);refine dG a (news:=[fA x]) At2 (by rw[Gy];unfold maxLen;simp;omega) (by rw[Gy];show(pre.length+1)*32<=_;omega) (by intro u hu;simp only[zbh,zfm,aM,zbw,zba,zan,or_false]at hu;rcases hu with rfl | rfl | rfl<;>rfl) (h:=?_);intro v2 a a;rw[<-hmp]at a;obtain⟨B2,c2,rfl,k,hB2⟩:=Sep.bJ a At2;refine Uz (λ_ k=>?_);refine xK (vU (DT ?_));have h2:=Sep.uF (p:=λv=>star (blk b4 [v] 23) (aY 97 3 aM v ((pre++[x]).map fA))) _ (Sep.aQ k.bH)
    have UJ: ∀y∈pre++[x],sG (fA y) y=true:=by
      intro y hy
      rcases zbk.1 hy with h | h
      . exact Ch y h
      rw[zau.1 h];exact hgx
    exact(Sep.bundle (l:=[jB (∀y∈pre++[x],sG (fA y) y=true),_,_,_]) (Sep.lu UJ h2.FZ)).FZ
  . intro l D ro rj W HW hy
    exact Zb rG HW hy
  rotate_left 1
  . intro D W pre x jA HD
    obtain⟨jN,HD2⟩:=((HD.aG).parts).tC;have hr:=J6 (jA.subset (zct pre (zau.2 rfl))) jN;rw[hr]at ak;exact uy (ER (yV HD2 At2 (λ_ k=>⟨[.slice none 0 0,I 4],VX (k.obj At0) (k.obj At1),.slice none 0 0,by rw[ak];rfl,trivial,by rw[ak];exact(Sep.iW k 97 3 aM).first.turn⟩)))
  intro D k k;have k:=(k.aG).parts;obtain⟨Ch,k⟩:=k.tC;obtain⟨v4,k⟩:=(Sep.aN k).ex0;have k:=k.bL;obtain⟨B4,cb,rfl,OO,hB4⟩:=Sep.bJ k At1;rw[J5 Ch]at ak;refine Uz (λ_ _=>?_);refine Uz (λ_ k=>?_);refine Qn (LY (yV k At4 (hR:=λ_ k=>?_)));exact⟨[_,I 0],VX (k.obj At2) (k.obj At3),_,by rw[ak];rfl,trivial,by rw[ak];exact k.aG.first.turn⟩
end
end
end Go.Proofs.Mw
