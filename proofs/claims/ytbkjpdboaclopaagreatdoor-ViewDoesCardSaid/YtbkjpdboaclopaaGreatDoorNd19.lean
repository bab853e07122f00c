/-
 The program's Parse of a plan,walked.
-/
import Derived.Test.YtbkjpdboaclopaaGreatDoorNd18
set_option linter.all false
set_option maxRecDepth 4000
namespace Go.Proofs.Mw
open Go.Lib Go.Proofs.Tryz
section
attribute [local irreducible] FW FL FG FGn jJ jO fC lJ Qfn Gives
def XH (x:L8):(∃l,x=l6 l/\Lib.trimSuffix x [10]=l/\Lib.hasSuffix x [10]=true)\/((∀l,x≠l6 l)/\Lib.trimSuffix x [10]=x/\Lib.hasSuffix x [10]=false):=by
 by_cases h:Lib.hasSuffix x [10]=true
 .have h':=h
  unfold Lib.hasSuffix at h';obtain⟨l,hl⟩:=List.isSuffixOf_iff_suffix.1 h';refine .inl ⟨l,hl.symm,?_,h⟩;unfold Lib.trimSuffix;rw[zac h,<-hl];simp
 refine .inr ⟨λl e=>h ?_,?_,by simpa using h⟩
 .unfold Lib.hasSuffix
  exact List.isSuffixOf_iff_suffix.2 ⟨l,e.symm⟩
 unfold Lib.trimSuffix;rw[zaa h]
def plJ (b2 b3 b4 b5:Nat) (pre:List (L8)):HP:=exH λz:List (L8)×aW×Int=>je [jk (pre=z.1.map l6/\vC z.1=some (z.2.1,z.2.2)),blk b2 [.slice none 0 0,.slice none 0 0,I 0] 26,blk b3 [I (pre.length:Nat)] 3,blk b4 [I 0] 31,KS b5 z.2.1 z.2.2]
def plL (b2 b3 b4:Nat) (pre:List (L8)) (x:L8):HP:=je [jk (∃ls p st,pre=ls.map l6/\vC ls=some (p,st)/\((∃l,x=l6 l/\jS p st l=none)\/∀l,x≠l6 l)),blk b2 [.slice none 0 0,.slice none 0 0,I 0] 26,blk b3 [I (pre.length:Nat)] 3,blk b4 [I 4] 31]
def aes {s:L8} {ls:List (L8)} {x:L8} {p:aW} {st:Int} (hs:s.length<=1048576) (hp:ls.map l6++[x]<+:sH s) (hr:vC ls=some (p,st)) (hx:(∃l,x=l6 l/\jS p st l=none)\/∀l,x≠l6 l):qJ s=(mJ,(((ls.map l6).length:Nat):Int),4):=by
 rw[zae]
 rcases aaj hp with⟨l,rest,e,hf⟩ | ⟨hw,hf,mE⟩
 .rcases hx with⟨l',e',hn⟩ | hx
  .have :l=l':=Xu (e.symm.trans e')
   subst this;exact aag hs hf hr hn
  exact zas e (hx l)
 unfold QV at hf;rw[hw,zaa dC]at hf;rw[hf]at hr ⊢;exact aah hs hw hr
section
variable {w:Wd}
def aan (l:L8):aQ prog 84 [str l,.int .u8 10] w λv w'=>v=I (Lib.indexByte l 10)/\w=w':=
 lH (Tryz.strings_IndexByte ⟨l.toArray⟩ 10 w)
def ahd (s:L8):aQ prog 49 [str s] w λv w'=>∃x:Nat,v=.func (.func 83) #[] #[av x]/\True/\Turn noB (blk x [str s] 9) w w':=by
 have H:=Sep.aH w;refine dh func49 ?_;refine Sr (bB H (cs:=[str s]) rfl (h:=λb1 _ k _=>?_));refine V1 ?_;refine Vv (Gives.makeFunc (fs:=[]) (us:=[]) (cs:=[.tmp 1]) rfl rfl) (V1 ?_);exact⟨b1,rfl,trivial,k.turn⟩
def Ui (x:L8) (hl:x.length<=10000000):aQ prog 50 [str x,str [10]] w λv w'=>v=.tuple #[str (Lib.trimSuffix x [10]),.bool (Lib.hasSuffix x [10])]/\w=w':=
 lH (Tryz.strings_CutSuffix ⟨x.toArray⟩ ⟨#[10]⟩ w (by rw[Mw.size_mk];omega))
def aao {S:NP} {w0:Wd} {J:List (L8)->HP} {L:List (L8)->L8->HP} {l D:Nat} {ro rj:Obj} {bS:Nat} {s:L8} (hl:s.length<=1048576)
    (HW:Sep w0 S [obj l ro,obj D (.deferred (some [])),J [],blk bS [str s] 9] w)
    (hy: ∀(pre:List (L8)) (x:L8) (Fr:List HP) (W:Wd),pre++[x]<+:sH s->Sep w0 S (obj l ro::obj D (.deferred (some []))::J pre::Fr) W->UQ prog l [str x] W λb W'=>if b=true then Sep w0 S (obj l ro::obj D (.deferred (some []))::J (pre++[x])::Fr) W' else Sep w0 S [obj l rj,obj D (.deferred (some [])),L pre x] W'):
    aQ prog 83 [.func (.yield l) #[] #[],av bS] w λ_ W'=>Sep w0 S [obj l ro,obj D (.deferred (some [])),J (sH s)] W'\/∃pre x,pre++[x]<+:sH s/\Sep w0 S [obj l rj,obj D (.deferred (some [])),L pre x] W':=by
  have H:=HW;refine bU func83 ?_;refine V0 ?_;refine aI (λ_:List (L8)×L8=>[(0,.func (.yield l) #[] #[]),(1,av bS)]) (λx w'=>(x.1++sH x.2=sH s/\x.2.length<=s.length)/\Sep w0 S [obj l ro,obj D (.deferred (some [])),J x.1,blk bS [str x.2] 9] w') (λx _=>x.2.length) ([],s) tR ⟨⟨rfl,zbi _⟩,H⟩ (λx τ w2 hI=>?_);obtain⟨pre,t⟩:=x;obtain⟨⟨Eu,Bj⟩,H2⟩:=hI;dsimp only at Eu Bj H2;refine Lp ?_;refine Cz (λhc6=>?_) (λhc6=>?_)
  . have iJ:t≠[]:=λe=>by rw[e]at hc6;exact zas hc6 dC
    refine V2 ?_;refine eG (aan t) (h:=?_);refine Cz (λIe=>?_) (λIe=>?_)
    . obtain⟨o,ho⟩: ∃o:Nat,Lib.indexByte t 10=o:=⟨(Lib.indexByte t 10).toNat,by have h1:=Ie;omega⟩
      obtain⟨ar2,hot,_⟩:=F8 ho;have hrs:=aei ho
      have jI:pre++[t.take (o+1)]<+:sH s:=by
        rw[<-Eu,hrs];exact⟨sH (t.drop (o+1)),sM⟩
      rw[ho];refine Dz (λSa wa Ha=>?_);refine V2 ?_;refine Gp Sa 2 rfl rfl (λ_=>(Gives.TB (c:=((o+1:Nat):Int)) rfl rfl (by show(o:Int)+1=_;omega) oM)) (Gp Sa 3 rfl rfl (λ_=>(Gives.sQ (i:=o+1) rfl rfl oM)) ?_);refine V2 ?_;refine Gp Sa 6 rfl rfl (λ_=>(Gives.TB (c:=((o+1:Nat):Int)) rfl rfl (by show(o:Int)+1=_;omega) oM)) (Gp Sa 7 rfl rfl (λ_=>(Gives.qc (i:=o+1) rfl rfl oM)) ?_);refine V1 ?_;refine l8 Sa 9 _ Ha (h:=λwb Hb=>⟨sT,?_⟩);refine V2 ?_;refine DF rfl (hy pre (t.take (o+1)) _ _ jI Hb) rfl rfl (λb8 wc Vr=>?_);refine Vv (Gives.not rfl) (Qn ?_);refine Cd rfl (λIf=>?_) (λIf=>?_)
      . have hb:b8=false:=by have h1:=If;revert h1;cases b8<;>simp
        rw[hb,zaa dC]at Vr;refine V0 ?_;exact .inr ⟨pre,t.take (o+1),jI,Vr⟩
      have hb:b8=true:=by have h1:=If;revert h1;cases b8<;>simp
      rw[hb,zac rfl]at Vr;have Hc:=Vr;refine V0 ?_;exact aj (pre++[t.take (o+1)],t.drop (o+1)) tR ⟨⟨by dsimp only;rw[<-Eu,hrs];simp,by dsimp only;rw[zbo];omega⟩,Hc⟩ (by dsimp only;rw[zbo];omega)
    have Y7:Lib.indexByte t 10= -1:=by have h1:=Ie;have h2:=Lib.indexByte_ge t 10;omega
    have hrs:=aeh Y7 iJ;have jI:pre++[t]<+:sH s:=by rw[<-Eu,hrs];exact List.prefix_refl _
    refine Uz (λwd Hd=>?_);refine V2 ?_;refine DF rfl (hy pre t _ _ jI Hd) rfl rfl (λb8 we Vr=>?_);refine Vv (Gives.not rfl) (Qn ?_);refine Cd rfl (λIg=>?_) (λIg=>?_)
    . have hb:b8=false:=by have h1:=Ig;revert h1;cases b8<;>simp
      rw[hb,zaa dC]at Vr;refine V0 ?_;exact .inr ⟨pre,t,jI,Vr⟩
    have hb:b8=true:=by have h1:=Ig;revert h1;cases b8<;>simp
    rw[hb,zac rfl]at Vr;have He:=Vr;refine V0 ?_;exact aj (pre++[t],[]) tR ⟨⟨by dsimp only;rw[<-Eu,hrs,Xv,zbt],sM⟩,He⟩ (by have:=zfj.2 iJ;dsimp only;simpa using this)
  have he:t=[]:=zbg oM;subst he;rw[Xv,zbt]at Eu;refine V0 ?_;exact .inl (by rw[<-Eu];exact H2.firsts (l:=[_,_,_]))
end
end
variable {x y:Od} {i m:Nat}
open Go.RowKit
section
variable {P:Program} {r:Option Nat} {n:Nat} {ops:AO} {Q:Post} {rest:LO} {σ:St} {w w0:Wd} {S:NP} {rs:List HP} {put:HP->List HP} {ty:Td} {pos:String} {after:Array Edge} {lv:List Bool} {pd:LNB} {guard:Option (Nat×Bool)}
variable {α:Type} {enc:α->LV} {k e c:Nat} {l:List α} {A:OA}
def Q8 (hk: ∀x,(enc x).length=k) (a':α): ∀{l:List α} {i:Nat},i<l.length->(l.flatMap enc).take (i*k)++enc a'++(l.flatMap enc).drop (i*k+k)=(l.set i a').flatMap enc
 | [],_,h=>zas h sM
 | x::l,0,_=>by
  rw[Nat.zero_mul,zdh,zbw,zdc,zdf,zbh,zbh,List.drop_left' (hk x)]
 | x::l,i+1,h=>by
  have ih:=Q8 hk a' (l:=l) (i:=i) (by simpa using h);have hx:=hk x;rw[zfq,zbh,zbh,List.take_append,zaj (by rw[hx,zei];omega),List.drop_append,zbu (by rw[hx,zei];omega),hx,show(i+1)*k-k=i*k by rw[zei];omega,show(i+1)*k+k-k=i*k+k by rw[zei];omega,zbw,zbm,zbm,<-zbm ((l.flatMap enc).take (i*k)),ih]
def Ga {ρ:Od->Value} {T:Td} [h1:Agg P T k] [hk:jd enc k] (a':α) (hm:m=l.length) (H:Sep w0 S rs w) (hat:At rs (aU e k enc (.slice A m c) l) put) (hi:i<l.length) (hx:ρ x=adr A (i*k)) (hy:ρ y=.agg (enc a').toArray) (hv:(enc a').all Value.oneCell'=true):
    ∃w',PE P ρ (.store T x y) ty w w'/\Sep w0 S (put (aU e k enc (.slice A m c) (l.set i a'))) w':=by
  subst hm;obtain⟨F,hp,hS,lG⟩:=H.focus hat;have H0:=Sep.bW hp;obtain⟨g,c',rest,hvv,hlen,hxl,rW,YX,H1⟩:=H0.acM At0 oM;injection hvv with hA _ hc
  subst hA;subst hc;have hb:=H1.obj At0;have Mr:=jw hk.len l;have hu:(enc a').length=k:=hk.len a';have YU:(i+1)*k<=l.length*k:=zex k hi;rw[zei]at YU;have dK:=run_storeCells_at P g (i*k) e (enc a') 0 (l.flatMap enc++rest).toArray w hb (by simp only[zft,zad,Mr,hu];omega) (λu hu=>zba.1 hv u hu)
  have hs:(l.flatMap enc++rest).take (i*k)++enc a'++(l.flatMap enc++rest).drop (i*k+(enc a').length)=(l.set i a').flatMap enc++rest:=by
    rw[hu,zek (by rw[Mr];omega),zel (by rw[Mr];omega),<-Q8 hk.len a' hi];simp only[zbm]
  have cK:Kept (λz=>z=g) w (w.setRow g ((l.set i a').flatMap enc++rest).toArray):=⟨rfl,rfl,rfl,sM,λj hj hS=>by simp only[World.setRow,zdm];rw[zaa (λe=>hS e.symm)]⟩
  have Ll:(w.setRow g ((l.set i a').flatMap enc++rest).toArray).heap[g]? =some (.cells ((l.set i a').flatMap enc++rest).toArray e (0,0)):=by
    simp only[World.setRow,zdm,if_true,hb,zdv]
  have H3:Sep w F [blk g ((l.set i a').flatMap enc++rest) e] _:=H1.setObj (At0 (p:=blk g (l.flatMap enc++rest) e) (l:=[])) cK Ll;have abF:=jw hk.len (l.set i a');rw[zcy]at abF;have H4:=H3.acN (n:=l.length) (c:=c) At0 (by rw[zad,abF];rw[zad,Mr]at hlen;exact hlen) abF rW YX;refine⟨w.setRow g ((l.set i a').flatMap enc++rest).toArray,λ_ _ _ _=>?_,?_⟩
  . have pG:ρ x=.pointer (some ⟨g,i*k,none⟩):=by rw[hx];show Value.pointer (some (Addr.add ⟨g,0,none⟩ (i*k)))=_;rw[Addr.add_lit,zdc]
    have DZ:=dK;simp only[zfb]at DZ;rw[hs]at DZ;simp[execOp,pG,hy,Instr.storeAt,Instr.sureAddr,storeVar,h1.size,Value.cells,hu];rw[DZ];simp
  obtain⟨h5,F5,h6,h7⟩:=H4;refine lG _ F5 _ h5 ?_ λb hb=>h7 b hb;have h8:=DC.1 h6;show(vF e k (.slice (some ⟨g,0,none⟩) l.length c) (l.set i a').length ((l.set i a').flatMap enc)).ok F5 _
  rw[zcy];exact h8
def JD (fB:dX n ops=true) (o:Nat) (pd':LNB) {T:Td} [h1:Agg P T k] [hk:jd enc k] {i:Nat} (a':α) (hm:m=l.length) (H:Sep w0 S rs w) (hat:At rs (aU e k enc (.slice A m c) l) put) (hi:i<l.length) (hv:(enc a').all Value.oneCell'=true)
    (ho:ops[o]? =some ⟨none,.store T x y,ty,pos,after,guard⟩:=by exact rfl)
    (hw:Region.wanted ⟨none,.store T x y,ty,pos,after,guard⟩ (bY ops σ)=true:=by kernel_rfl) (hx:evF σ x=adr A (i*k):=by exact rfl) (hy:evF σ y=.agg (enc a').toArray:=by exact rfl)
    (dN:fE ops lv (pd.map (·.1)) o=true:=by kernel_rfl) (oH:pd.filter (λp=> !((above ops o).contains p.1))=pd':=by exact pD)
    (h: ∀w',Sep w0 S (put (aU e k enc (.slice A m c) (l.set i a'))) w'->jo P ops σ w' pd'/\FG P r n ops Q (lv.set o true) pd' σ w'):FG P r n ops Q lv pd σ w:=
  XL fB o pd' ho hw (Ga a' hm H hat hi hx hy hv) dN oH h
end
def KM.set {r:List aC} {c:aC} (h:KM m r) (hc:fits c.n/\∀b,okC (ab9 b i).type c):KM m (r.set i c):=by
 refine⟨by rw[zcy];exact h.len,λy hy=>?_,λb j d hd=>?_⟩
 .rcases List.mem_or_eq_of_mem_set hy with h1 | h1
  .exact h.fit y h1
  rw[h1];exact hc.1
 by_cases hj:i=j
 .subst hj
  rw[List.getElem?_set_self']at hd;cases hg:r[i]? with
  | none=>rw[hg]at hd;cases hd
  | some z=>rw[hg]at hd;simp at hd;rw[<-hd];exact hc.2 b
 rw[List.getElem?_set_ne hj]at hd;exact h.ok b j d hd
variable {w:Wd}
variable {k:Nat} {v:Value}
def Nu {P:Program} {T U V:Td} [Agg P T k] [OneCell P U] [OneCell P V] {σ:St} {a b c x y z:Nat} {us:LV} {u:Value} {E F G:Td} (hx:w.heap[x]? =some (.cells us.toArray E (0,0))) (hy:w.heap[y]? =some (.cells [v].toArray F (0,0))) (hz:w.heap[z]? =some (.cells [u].toArray G (0,0)))
    (hk:us.length=k:=by exact rfl) (ha:σ a=.pointer (some ⟨x,0,none⟩):=by exact rfl) (hb:σ b=.pointer (some ⟨y,0,none⟩):=by exact rfl) (hc:σ c=.pointer (some ⟨z,0,none⟩):=by exact rfl):qQ P σ w [.cell a T,.cell b U,.cell c V] [.agg us.toArray,v,u]:=
  ⟨_,[v,u],⟨x,0,none⟩,rfl,ha,mY (k:=k) hx (us:=us) (by rw[zde,<-hk,zbq]) hk,v,[u],⟨y,0,none⟩,rfl,hb,FV hy,u,[],⟨z,0,none⟩,rfl,hc,FV hz,rfl⟩
section
attribute [local irreducible] FW FL FG FGn jJ jO fC lJ Qfn Gives
def EI {α:Type} {enc:α->LV}:aJ w (.slice none 0 0) enc k []:=⟨none,0,rfl,⟨zbi _,dC⟩,gZ.nil _ _ _⟩
def ahe (w:Wd):fZ w (agg [.slice none 0 0,.slice none 0 0,I 0]) mJ:=⟨_,_,rfl,EI,[],EI,pI.nil⟩
section
variable {w w0:Wd} {S:NP} {rs:List HP}
def Dn {F:NP} (H:Mw.Sep w0 F rs w):Turn F (QW (agg [.slice none 0 0,.slice none 0 0,I 0]) mJ) w0 w:=(Sep.qL H ahe).first.turn
def Uj {b:Nat} {p:aW} {st:Int} {vw vc:Value} {r:List (L8×Value)} (H:Mw.Sep w0 S (blk b [vw,vc,I p.group,I st] 109::F9 vw aN 3 p.wh::aU 68 2 dx vc r::Bb r p.cols::rs) w):fZ w (agg [vw,vc,I p.group]) p:=
 ⟨vw,vc,rfl,Sep.sees H At1,r,jq H At2,Sep.sees H At3⟩
theorem Nv (s:L8) (hl:s.length<=900000\/1048576<s.length) (YX:s.length<=1000000000) (hT:gT w):aQ Tryz.prog 21 [str s] w λv w'=>∃x,v=.tuple #[x,I (qJ s).2.1,I (qJ s).2.2]/\True/\Turn noB (QW x (qJ s).1) w w':=by
  have H:=Sep.aH w;obtain⟨res,ak⟩: ∃res,res=qJ s:=⟨_,rfl⟩;rw[<-ak];refine aiv Tryz.func21 ?_;refine Az (λb2 w2 H2 k1=>?_);refine Az (λb3 w4 H4 k3=>?_);refine Az (λb4 w6 H6 k5=>?_);refine Cz (λIe=>?_) (λIe=>?_)
  . unfold qJ at ak
    rw[zac oM]at ak;refine Sr (Vb [.slice none 0 0,.slice none 0 0,I 0] ?_);refine Tz (λwa Ha=>?_);refine Uz (λwb Hb=>?_);refine Uz (λwc Hc=>?_);refine Qn (Rs (GV (h:=?_)));exact⟨[_,I 0,I 5],Nu (Hc.obj At2) (Hc.obj At1) (Hc.obj At0),_,by rw[ak];rfl,trivial,by rw[ak];exact Dn Hc⟩
  have rW:s.length<=900000:=oM;have YS:s.length<=1048576:=oM;refine Az (λb5 wd Hd ka=>?_);refine V1 ?_;refine aL (ahd s) rfl rfl (λv' we hv=>?_);obtain⟨bS,rfl,_,cK,F1,hq,iC⟩:=hv;have He:=Hd.new cK hq (λb hb=>(iC b hb).resolve_left id);refine V0 ?_;have aur:=ag7 s
  have HJ:Mw.Sep w noB (plJ b2 b3 b4 b5 []::[blk bS [str s] 9]) we:=by
    have h0:Mw.Sep w noB (F9 (.slice none 0 0) aN 3 []::_) we:=Sep.qL He λ_=>EI;have h1:=((EH (Sep.iW h0 68 2 dx)).aF.aO).gu;have h2:=((uL (p:=mJ) h1).aO.aS).gu;exact Sep.tY (p:=λz:List (L8)×aW×Int=>je [jk (([]:List (L8))=z.1.map l6/\vC z.1=some (z.2.1,z.2.2)),blk b2 [.slice none 0 0,.slice none 0 0,I 0] 26,blk b3 [I (([]:List (L8)).length:Nat)] 3,blk b4 [I 0] 31,KS b5 z.2.1 z.2.2]) ([],mJ,0) (Sep.bundle (l:=[jk (([]:List (L8))=([]:List (L8)).map l6/\vC []=some (mJ,0)),_,_,_,_]) (Sep.jP ⟨rfl,rfl⟩ h2))
  refine R6 (gf:=83) (lb:=[av bS]) str (sH s) (plJ b2 b3 b4 b5) (plL b2 b3 b4) _ HJ rfl rfl ?_ ?_ ?_ ?_
  . intro l D ro rb pre x Fr W jI HW
    have hxm:x∈sH s:=jI.subset (zcv pre (zaw.2 rfl));have hxl:=aj5 hxm;have Ql:pre.length+1<=s.length+1:=by have:=jI.length_le;rw[zad,zaf]at this;omega
    refine O1 ?_;refine yj (qP ?_);refine⟨[],HW,λWB HB=>?_⟩;have HB2:Mw.Sep w noB (obj l rb::obj D (.deferred (some []))::plJ b2 b3 b4 b5 pre::Fr) WB:=HB;replace HB2:=HB2.aO;unfold plJ at HB2;obtain⟨⟨ls,p,st⟩,HB2⟩:=HB2.ex0;obtain⟨⟨DT,iw⟩,HB3⟩:=(HB2.parts).ru;dsimp only at DT iw HB3;obtain⟨qy,dK,D5⟩:=Xx ls iw;replace HB:=HB3;refine V1 ?_;refine eG (Ui x oM) (h:=?_);refine V8 ?_;refine dL (t:=25) rfl (λSa=>?_) (λSa=>?_)
    . have anO:Lib.hasSuffix x [10]=false:=by simpa using Sa
      have mE: ∀l,x≠l6 l:=by
        rcases XH x with⟨_,_,_,h⟩ | ⟨h,_⟩
        . rw[anO]at h;cases h
        exact h
      have jV: ∃ls p st,pre=ls.map l6/\vC ls=some (p,st)/\((∃l,x=l6 l/\jS p st l=none)\/∀l,x≠l6 l):=⟨ls,p,st,DT,iw,.inr mE⟩;refine Dz (λSb wf Hf=>?_);refine Gb Sb 0 [.slice none 0 0,.slice none 0 0,I 0] ?_;refine V1 ?_;refine bM Sb 2 [(1,false)] Hf (h:=λwg Hg=>⟨sL,?_⟩);refine l8 Sb 3 _ Hg (h:=λwi Hh=>⟨sT,?_⟩);refine l8 Sb 4 _ Hh (h:=λwj Hi=>⟨sT,?_⟩);refine fO Sb kR ?_;refine iK (Rs (uR (AA ?_)));exact(Sep.bundle (l:=[jk (∃ls p st,pre=ls.map l6/\vC ls=some (p,st)/\((∃l,x=l6 l/\jS p st l=none)\/∀l,x≠l6 l)),_,_,_]) (rs:=[_,_]) (Sep.jP jV ((Hi.aS).bI.firsts (l:=[_,_,_,_,_])))).GK
    have anO:Lib.hasSuffix x [10]=true:=by simpa using Sa
    obtain⟨l0,hx0,ai1⟩: ∃l0,x=l6 l0/\Lib.trimSuffix x [10]=l0:=by
      rcases XH x with⟨l0,h1,h2,_⟩ | ⟨_,_,h⟩
      . exact⟨l0,h1,h2⟩
      rw[anO]at h;cases h
    have Jb:l0.length<=s.length+1:=by have h1:=hxl;rw[hx0]at h1;unfold l6 at h1;rw[zad,zaf]at h1;omega
    have avF:ls.length=pre.length:=by rw[DT,zae]
    rw[ai1];refine V1 ?_;obtain⟨F0,eO,gQ,aK⟩:=HB.focus At3;refine aL (akc l0 eO dK oM oM λw' hk=>hT.keep (HB.kept.trans hk gQ)) rfl rfl (λv' wk hv=>?_);obtain⟨rfl,cK,F1,hq,iC⟩:=hv;have Hj:=aK _ F1 _ cK hq iC;refine On (Vv (Gives.not rfl) (Pf ?_));refine Qn (Cd rfl (λIf=>?_) (λIf=>?_))
    . have Li:jS p st l0=none:=by
        have h1:=If;cases hq:jS p st l0 with
        | none=>rfl
        | some y=>rw[hq]at h1;cases h1
      have jV: ∃ls p st,pre=ls.map l6/\vC ls=some (p,st)/\((∃l,x=l6 l/\jS p st l=none)\/∀l,x≠l6 l):=⟨ls,p,st,DT,iw,.inl ⟨l0,hx0,Li⟩⟩;refine Dz (λSc wl Hk=>?_);refine Gb Sc 0 [.slice none 0 0,.slice none 0 0,I 0] ?_;refine V1 ?_;refine bM Sc 2 [(1,false)] Hk (h:=λwm Hl=>⟨sL,?_⟩);refine l8 Sc 3 _ Hl (h:=λwn Hm=>⟨sT,?_⟩);refine l8 Sc 4 _ Hm (h:=λwo Hn=>⟨sT,?_⟩);refine fO Sc kR ?_;refine iK (Rs (uR (AA ?_)));exact(Sep.bundle (l:=[jk (∃ls p st,pre=ls.map l6/\vC ls=some (p,st)/\((∃l,x=l6 l/\jS p st l=none)\/∀l,x≠l6 l)),_,_,_]) (rs:=[_,_]) (Sep.jP jV ((Hn.aS).bI.firsts (l:=[_,_,_,_,_])))).GK
    obtain⟨⟨p',st'⟩,hl1⟩: ∃y,jS p st l0=some y:=by
      have h1:=If;cases hq:jS p st l0 with
      | none=>rw[hq]at h1;cases h1
      | some y=>exact⟨y,rfl⟩
    rw[hl1]at Hj;have asb:pre++[x]=(ls++[l0]).map l6:=by rw[zak,DT,hx0];rfl
    have apK:vC (ls++[l0])=some (p',st'):=by rw[Nk,iw];exact hl1
    refine V1 ?_;refine Vv (Gives.TB (c:=(((pre++[x]).length:Nat):Int)) rfl rfl (by rw[zad,zaf];omega) (by rw[zad,zaf];omega)) ?_;refine Uz (λwp Ho=>?_);refine yj (xG (Ej ?_));exact(Sep.tY (p:=λz:List (L8)×aW×Int=>je [jk (pre++[x]=z.1.map l6/\vC z.1=some (z.2.1,z.2.2)),blk b2 [.slice none 0 0,.slice none 0 0,I 0] 26,blk b3 [I ((pre++[x]).length:Nat)] 3,blk b4 [I 0] 31,KS b5 z.2.1 z.2.2]) (ls++[l0],p',st') (Sep.bundle (l:=[jk (pre++[x]=(ls++[l0]).map l6/\vC (ls++[l0])=some (p',st')),_,_,_,_]) (Sep.jP ⟨asb,apK⟩ Ho))).GK
  . intro l D ro rj W HW hy
    exact aao YS HW hy
  rotate_left 1
  . intro D W pre x jI HD
    obtain⟨⟨ls,p,st,DT,iw,jV⟩,HD2⟩:=((HD.aF).parts).ru;subst DT;rw[aes YS jI iw jV]at ak;exact uR (FB (zx HD2 At3 (λw1 H1=>⟨[_,_,I 4],Nu (H1.obj At0) (H1.obj At1) (H1.obj At2),_,by rw[ak];rfl,trivial,by rw[ak];exact Dn H1⟩)))
  intro D wq Hp;have Hp:=Hp.aF;unfold plJ at Hp;obtain⟨⟨ls,p,st⟩,Hp⟩:=Hp.ex0;obtain⟨⟨DT,iw⟩,Hp⟩:=(Hp.parts).ru;dsimp only at DT iw Hp;obtain⟨qy,dK,D5⟩:=Xx ls iw;obtain⟨anP,hls⟩:=aj4 DT;have bX:=aaf YS anP (by rw[hls];exact iw);rw[<-ak,hls]at bX;have hlen:(sH s).length=ls.length:=by rw[DT,zae]
  rw[hlen]at Hp;obtain⟨vw,vc,r,Hp⟩:=Nt (Hp.aS);obtain⟨Aw,cw,rfl,_⟩:=(Sep.sees Hp At1:aJ _ vw aN 3 p.wh);obtain⟨Ac,cc,rfl,Pg,hRc⟩:=Sep.bH Hp At2;refine Cz (λIg=>?_) (λIg=>?_)
  . rw[zac Ig]at bX
    refine Dz (λSd wr Hq=>?_);refine Gb Sd 0 [.slice none 0 0,.slice none 0 0,I 0] ?_;refine V1 ?_;refine bM Sd 2 [(1,false)] Hq (h:=λws Hr=>⟨sL,?_⟩);refine l8 Sd 3 _ Hr (h:=λwt Hs=>⟨sT,?_⟩);refine l8 Sd 4 _ Hs (h:=λwu Ht=>⟨sT,?_⟩);refine fO Sd kR ?_;refine iK (Rs (zx Ht At7 (hR:=λwv Hu=>?_)));exact⟨[_,_,I 4],Nu (Hu.obj At4) (Hu.obj At5) (Hu.obj At6),_,by rw[bX];rfl,trivial,by rw[bX];exact Dn Hu⟩
  rw[zaa Ig]at bX;refine V1 ?_;refine Gi Hp (us:=[.slice Aw p.wh.length cw,.slice Ac r.length cc,I p.group]) (hu:=rfl) (hk:=rfl) (h:=?_);have Ql:=Uj Hp;refine Kz (aen Ql D5.1 D5.2 oM (hT.keep Hp.kept)) (λww Hv kb=>?_);refine Cz (λIh=>?_) (λIh=>?_)
  . have yI:DW p=false:=by
      cases hq:DW p with
      | false=>rfl
      | true=>have h1:=Ih;unfold KN at h1;rw[hq,zaa dC]at h1;exact zas rfl h1
    have ht2:(KN p).2=2:=by unfold KN;rw[zac yI]
    rw[zac yI]at bX;refine Sr (Vb [.slice none 0 0,.slice none 0 0,I 0] ?_);refine Mv ?_;refine Tz (λwx Hw=>?_);refine Uz (λwy Hx=>?_);refine Uz (λwz Hy=>?_);refine Qn (Rs (zx Hy At7 (hR:=λwD Hz=>?_)));exact⟨[_,I 0,_],Nu (Hz.obj At4) (Hz.obj At5) (Hz.obj At6),_,by rw[bX,ht2];rfl,trivial,by rw[bX];exact Dn Hz⟩
  have yI:DW p=true:=by
    cases hq:DW p with
    | true=>rfl
    | false=>have h1:=Ih;unfold KN at h1;rw[zac hq]at h1;exact zas dC h1
  rw[zaa (by rw[yI];decide)]at bX;refine V1 ?_;refine Gi Hv (us:=[.slice Aw p.wh.length cw,.slice Ac r.length cc,I p.group]) (hu:=rfl) (hk:=rfl) (h:=?_);refine Tz (λwE HA=>?_);refine Uz (λwF HC=>?_);refine Uz (λwG HE=>?_);refine Qn (ME (zx HE At7 (hR:=λwH HF=>?_)));exact⟨[_,I 0,I 0],Nu (HF.obj At4) (HF.obj At5) (HF.obj At6),_,by rw[bX];rfl,trivial,by rw[bX];exact(Xy (g:=p.group) HF.bI).first.turn⟩
end

section
variable {w:Wd}
end
def hi0 (k a b:Int):Int:=if k=8 then a/4294967296-b/4294967296 else a/4294967296+b/4294967296
section
variable {w:Wd}
def ahf {p:aW} (hp:fZ w v p) (hn:p.cols.length<=100) (Bn:p.wh.length<=1000) (Tq: ∀o∈p.cols,o.steps.length<=1000):aQ Tryz.prog 33 [v] w λv' w'=>∃x,v'=x/\True/\Turn noB (QW x p) w w':=by
 obtain⟨vw,vc,rfl,hw,r,hr,eP⟩:=hp;obtain⟨A,m,rfl,⟨hm,nX⟩,hA⟩:=hr;obtain⟨W,mw,rfl,_,hW⟩:=id hw;have yL:=eP.len;have H:=Sep.aH w;refine pE Tryz.func33 ?_;refine Sr (bB H (cs:=[.slice W p.wh.length mw,.slice A r.length m,I p.group]) rfl (h:=λb1 _ _ _=>?_));refine Az (λb2 _ _ _=>?_);refine V2 ?_;refine Vb [.slice none 0 0,.slice none 0 0,I p.group] ?_;refine Az (λb3 _ _ _=>?_);refine Tz (λ_ k=>?_);refine Nx ?_;have S:=Sep.iW k 66 3 aN;refine Vf ?_;refine V3 ?_;refine ni S At0 (hW.keep S.kept) (by unfold maxLen;simp;omega) (by simp;omega) (cells_one (λ_=>rfl) _) (h:=?_);intro v0 S S;rw[zbw]at S;obtain⟨X,cx,rfl,_,_⟩:=Sep.bH S At0;refine Vf ?_;refine Uz (λ_ S=>?_);refine V1 ?_;have k:=EH (Sep.iW (dY S At0) 68 2 dx);refine aI (λx:Nat×(OA×Nat)×List (L8×Value)=>[(1,av b1),(2,av b2),(3,av b3),(4,I x.1)]) (λx w'=>(x.1<=r.length/\x.2.2.length=x.1)/\Sep w noB [Bb x.2.2 (p.cols.take x.1),aU 68 2 dx (.slice x.2.1.1 x.2.2.length x.2.1.2) x.2.2,F9 (.slice X p.wh.length cx) aN 3 p.wh,blk b3 [.slice X p.wh.length cx,.slice x.2.1.1 x.2.2.length x.2.1.2,I p.group] 26,blk b2 [.slice none 0 0,.slice none 0 0,I 0] 26,blk b1 [.slice W p.wh.length mw,.slice A r.length m,I p.group] 26] w') (λx _=>r.length-x.1) (0,(none,0),[]) tR ⟨⟨zai _,rfl⟩,k⟩ (λx τ _ hI=>?_);obtain⟨i,⟨C,cc⟩,q⟩:=x;obtain⟨⟨hi,Zl⟩,k⟩:=hI;dsimp only at hi Zl k;refine Lp ?_;refine Cz (λS=>?_) (λS=>?_)
 .have aX:i<p.cols.length:=oM
  obtain⟨vx,hx,CS⟩:=eP.at aX;have qy:p.cols[i]? =some p.cols[i]:=zab aX;obtain⟨o,ho⟩: ∃o,o=p.cols[i]:=⟨_,rfl⟩;rw[<-ho]at hx CS qy;obtain⟨Ax,mx,rfl,_,hX⟩:=id CS;have hol:=Tq o (zag qy);have yH:p.cols.take (i+1)=p.cols.take i++[o]:=by rw[zat,qy];rfl
  refine V0 ?_;have S:=Sep.iW k 66 3 aN;refine Am ?_;refine Dz (λS _ a=>?_);refine V15 ?_;refine zB S 15 [(7,false),(6,true),(5,true),(4,true),(3,false),(2,true),(1,false),(0,true)] a At0 (hX.keep a.kept) (by unfold maxLen;simp;omega) (by simp;omega) (cells_one (λ_=>rfl) _) (h:=λv2 _ a=>?_);rw[zbw]at a;obtain⟨Y,cy,rfl,_,_⟩:=Sep.bH a At0;refine⟨(bQ rfl kR (Gives.dG (i:=i) (f:=0) (c:=(o.name,.slice Ax o.steps.length mx)) rfl a hA hx rfl) rfl (ay (ay (ay (iL a (h:=ay (iL a (h:=ay (eF))))))))),?_⟩;refine Gb S 16 (dx (o.name,.slice Y o.steps.length cy)) ?_;refine Gz S 17 [(1,false),(0,true)] a ([(o.name,Value.slice Y o.steps.length cy)].flatMap dx) (h:=λbs _ a=>⟨sL,?_⟩);refine gH S 18 _ a (news:=[(o.name,Value.slice Y o.steps.length cy)]) At2 (by unfold maxLen;simp;omega) (by simp;omega) (XG rfl) (h:=λv3 _ a=>?_);obtain⟨C2,c2,rfl,_,_⟩:=Sep.bH a At2;refine⟨sT,?_⟩;refine V1 ?_;refine l8 S 20 _ a (h:=λ_ a=>⟨sT,?_⟩);refine V3 ?_;exact aj (i+1,(C2,c2),q++[(o.name,Value.slice Y o.steps.length cy)]) tR ⟨⟨dO,by dsimp only;rw[zad,Zl];rfl⟩,by
  dsimp only;rw[yH];exact BL a⟩ dO
 have jG:i=r.length:=oM;rw[jG,zaj oM]at k;refine Tz (λ_ a=>?_);refine V0 ?_;exact⟨_,fG a,_,rfl,trivial,(Xy (s:=p.wh) (g:=p.group) (cols:=p.cols) a.aF.aO).first.turn⟩
end
end
section
variable {P:Program} {r:Option Nat} {n:Nat} {ops:AO} {Q:Post} {rest:LO} {σ:St} {w w0:Wd} {S:NP} {rs:List HP} {put:HP->List HP} {ty:Td} {pos:String} {after:Array Edge} {lv:List Bool} {pd:LNB} {guard:Option (Nat×Bool)}
def Gives.alP {ρ:Od->Value} {t e:Td} [hs:dn P t e] {size bytes:Nat} [hc:Cells P e size bytes] {z:Value} [hz:Zero P e z] {cs:LV} (hx:ρ x=.int .i64 k) (hy:ρ y=.int .i64 k) (hcs:madeCells z.cells (k*size)=cs.toArray) (hb:bytes*k<=281474976710656) (hk:k<=maxLen):
    Gives P ρ (.makeSlice t x y) ty w (.slice (some ⟨w.heap.size,0,none⟩) k k) (w.alloc (.cells cs.toArray e)):=λ_ _ _ _=>by
  obtain⟨i,hi,qE⟩:=zbc.1 hc.size;simp only[Prod.mk.injEq]at qE
  have xq:i.zero=some z:=by
    have:=hz.run w;simp[zeroValue,typeInfo,hi]at this;cases hq:i.zero with
    | none=>simp[hq]at this
    | some u=>simp[hq]at this;rw[this]
  have iw:=run_make (P:=P) w t e i z hs.und hi xq .i64 .i64 (k:Int) (k:Int) oM oM (by rw[qE.2,<-Int.natCast_mul];generalize bytes*k=q at hb ⊢;omega) (by unfold maxLen at hk;omega);rw[zds,qE.1,hcs]at iw;simp only[execOp,hx,hy,zbj,iw,zan,zbl]
def rP {α:Type} {enc:α->LV} {e c:Nat} {l:List α} {A:OA} {T:Td} [h1:Agg P T k] [hk:jd enc k] {i:Nat} (a':α) (hm:m=l.length) (H:Sep w0 S rs w) (hat:At rs (aU e k enc (.slice A m c) l) put) (hi:i<l.length) (hv:(enc a').all Value.oneCell'=true)
    (h: ∀w',Sep w0 S (put (aU e k enc (.slice A m c) (l.set i a'))) w'->FL P r n ops Q rest σ w') (hx:evF σ x=adr A (i*k):=by exact rfl) (hy:evF σ y=.agg (enc a').toArray:=by exact rfl):
    FL P r n ops Q (⟨none,.store T x y,ty,pos,after,none⟩::rest) σ w:=by
  obtain⟨w',ha,hs⟩:=Ga (P:=P) (ty:=ty) (T:=T) a' hm H hat hi hx hy hv;exact Ey ha rfl (h w' hs)
end
section
variable {w w0:Wd} {S:NP} {rs:List HP} {put:HP->List HP}
def qo {α:Type} (w:Wd) (enc:α->LV) (k:Nat):aJ w (.slice none 0 0) enc k []:=⟨none,0,rfl,⟨zbi _,dC⟩,gZ.nil _ _ _⟩
def Nw {α:Type} {enc:α->LV} {b e:Nat} [hk:jd enc k] {l:List α} (H:Mw.Sep w0 S rs w) (hat:At rs (blk b (l.flatMap enc) e) put) (hm:m=l.length) (hl:l.length<=100000):aJ w (.slice (some ⟨b,0,none⟩) m m) enc k l:=by
 subst hm;exact⟨_,_,rfl,⟨zbi _,oM⟩,Sep.lV H hat (jw hk.len l)⟩
end
section
variable {P:Program} {ρ:Od->Value} {ty:Td} {w w0:Wd} {x y:Od} {α:Type} {enc:α->LV} {k:Nat} {l:List α} {A:OA}
end
def aeu (x:Int×Int):LV:=[I x.1,I x.2]
variable {a b:List aC}
instance:jd aeu 2:=⟨λ_=>rfl⟩
section
attribute [local irreducible] FW FL FG FGn jJ jO fC lJ Qfn Gives
def U (n:Int):Value:=.int .u64 n
def bZ (v:Int):LV:=[U (wA v),U (wB v),U (wC v)]
instance:jd bZ 3:=⟨λ_=>rfl⟩
def Gd (x:Int×Int×Int):LV:=[U x.1,U x.2.1,U x.2.2]
def aap {P:Program} {d:Nat} {t:Td} (a b:Int) (h:P.underlying t=some (.int .u64)):(Op.equalIn (d+1) t (U a) (U b)).run P w=.ok (decide (a=b)) w:=by
 rw[show U a=.int .u64 a from rfl,show U b=.int .u64 b from rfl,run_equalIn_int w d t .u64 .u64 a b h];rfl
def aoU {d:Nat} (a b:Int×Int×Int) (w:Wd):(Op.equalIn (d+2) 231 (.agg (Gd a).toArray) (.agg (Gd b).toArray)).run prog w=.ok (decide (a=b)) w:=by
 rw[run_equalIn_agg w (d+1) _ _ _ kR kR];simp only[Program.fieldsOf,underlying231];rw[Kj rfl aa5 rfl rfl (aap a.1 b.1 kR),Kj rfl aa5 rfl rfl (aap a.2.1 b.2.1 kR),Kj rfl aa5 rfl rfl (aap a.2.2 b.2.2 kR),aiL];have e:(a=b)=(a.1=b.1/\a.2.1=b.2.1/\a.2.2=b.2.2):=propext ⟨λh=>by subst h;exact⟨rfl,rfl,rfl⟩,λh=>Prod.ext h.1 (Prod.ext h.2.1 h.2.2)⟩;simp only[e]
 by_cases h1:a.1=b.1<;>by_cases h2:a.2.1=b.2.1<;>by_cases h3:a.2.2=b.2.2<;>simp[h1,h2,h3]
instance:EqData prog 231 (Int×Int×Int) Gd:=⟨λa b w=>aoU (d:=9998) a b w,kR⟩
def DX:List Int->Int
 | []=>0
 | x::l=>x+DX l
def XI (a b:List Int):DX (a++b)=DX a+DX b:=by
 induction a with
 | nil=>simp[DX]
 | cons x a ih=>rw[zcb,DX,DX,ih];omega
section
variable {w:Wd}
def Gf (n:Int) (hn:fits n):aQ prog 215 [I n] w λv w'=>v=U (if n<0 then 18446744073709551615 else 0)/\w=w':=by
 refine dh func215 ?_;refine V2 ?_;refine Vv (Gives.shr rfl rfl dC) (Vv (Gives.conv rfl) ?_);refine V1 ?_;exact⟨zay U (by
 show IntKind.u64.wrap (n.fdiv (2^63))=_
 rw[IntKind.wrap_u64];have h1:=hn.1;have h2:=hn.2;rw[show(2:Int)^63=9223372036854775808 from dC,zfv _ dC]
 split<;>omega),rfl⟩
def Uk (n:Int) (hn:fits n):Rk prog 153 [I n] w (agg (bZ n)):=by
 have H:=Sep.aH w;obtain⟨h1,h2⟩:=ajO hn.1 (Int.lt_add_one_of_le hn.2);refine pE func153 ?_;refine Az (λb1 _ _ _=>?_);refine V1 ?_;refine Vv (Gives.conv rfl) ?_;rw[IntKind.wrap_u64];refine Mv ?_;refine eG (Gf n hn) (h:=?_);refine Mv ?_;refine eG (Gf n hn) (h:=?_);refine Vb [U (wA n),U (if n<0 then 18446744073709551615 else 0),U (if n<0 then 18446744073709551615 else 0)] ?_;refine Tz (λ_ k=>?_);refine V0 ?_;exact⟨_,fG k,by unfold bZ;rw[h1,h2];rfl,k.kept⟩
def JE (a b c:Int) (ha:0<=a) (hb:0<=b) (h0:0<=c) (hc:c<=1):(callFunc 305 [U a,U b,U c].toArray).run prog w=.ok (.value (.tuple #[U ((a+b+c)%18446744073709551616),U ((a+b+c)/18446744073709551616)])) w:=by
 rw[run_callFunc_extern (e:=add64Entry) func305 kR kR kR kR];show((add64Entry #[.int .u64 a,.int .u64 b,.int .u64 c]).run prog w).andThen _=_
 rw[run_add64 a b c ha hb h0 hc w];rfl
def akd {L:List Int} {vl:Value} (hl:aJ w vl bZ 3 L):Rk prog 214 [vl] w (agg (bZ (DX L))):=by
 obtain⟨A,m,rfl,⟨hm,nX⟩,hA⟩:=hl;have H:=Sep.aH w;refine pE func214 ?_;refine Az (λb2 _ k _=>?_);refine V3 ?_;refine aI (λi:Nat=>[(2,av b2),(6,.slice A L.length m),(7,I L.length),(8,I i)]) (λi w'=>i<=L.length/\Sep w noB [blk b2 (bZ (DX (L.take i))) 231] w') (λi _=>L.length-i) 0 tR ⟨zai _,k⟩ (λi τ _ hI=>?_);obtain⟨hi,k⟩:=hI;refine Lp ?_;refine Cz (λS=>?_) (λS=>?_)
 .have aX:i<L.length:=oM
  obtain⟨x,hx⟩:=get_some aX;have hxm:=hx;have yH:DX (L.take (i+1))=DX (L.take i)+x:=by rw[zat,hx,XI];show _+(x+0)=_;omega
  obtain⟨s,hs⟩: ∃s,s=DX (L.take i):=⟨_,rfl⟩;rw[<-hs]at yH k;obtain⟨⟨Vj,Vz⟩,⟨Fv,hb2⟩,S,a⟩:=mI s;obtain⟨⟨hd1,G8⟩,⟨Lj,VD⟩,hf1,hf2⟩:=mI x;obtain⟨hsa,qE,hsc⟩:=agf s x;refine Az (λb4 _ _ _=>?_);refine Tz (λ_ _=>?_);refine V5 ?_;refine Vv (Gives.ext (vals:=[U (wA s),U (wA x),U 0]) (JE _ _ _ Vj hd1 dC dC)) (Uz (λ_ _=>?_));refine V6 ?_;refine Vv (Gives.ext (vals:=[U (wB s),U (wB x),U ((wA s+wA x+0)/18446744073709551616)]) (JE _ _ _ Fv Lj oM oM)) (Uz (λ_ _=>?_));refine V6 ?_;refine Vv (Gives.ext (vals:=[U (wC s),U (wC x),U ((wB s+wB x+(wA s+wA x+0)/18446744073709551616)/18446744073709551616)]) (JE _ _ _ S hf1 oM oM)) (Uz (λ_ S=>?_));refine V0 ?_;refine Vc ((i+1:Nat):Int) ?_;refine V1 ?_
  have e:[U ((wA s+wA x+0)%18446744073709551616),U ((wB s+wB x+(wA s+wA x+0)/18446744073709551616)%18446744073709551616),U ((wC s+wC x+(wB s+wB x+(wA s+wA x+0)/18446744073709551616)/18446744073709551616)%18446744073709551616)]=bZ (DX (L.take (i+1))):=by
   rw[yH];unfold bZ;rw[hsa,qE,hsc,zgf]
  exact aj (i+1) tR ⟨oM,by rw[<-e];exact(S.aF).first⟩ oM
 have q9:DX (L.take i)=DX L:=by rw[zaj oM]
 rw[q9]at k;refine Tz (λ_ S=>?_);refine V0 ?_;exact⟨_,fG S,rfl,S.kept⟩
def Ul (x y:Int):Rk prog 152 [agg (bZ x),agg (bZ y)] w (agg (bZ (x+y))):=by
 have H:=Sep.aH w;refine tN func152 ?_;refine Sr (bB H (cs:=bZ x) rfl (h:=λb2 _ k _=>?_));refine bB k (cs:=bZ y) rfl (h:=λb3 _ _ _=>?_);refine Az (λb5 _ k _=>?_);refine V2 ?_;refine Bs k ([x,y].flatMap bZ) (λbs _ k _=>?_);have tV:=Nw (enc:=bZ) (l:=[x,y]) k At0 rfl (by show 2<=100000;decide);refine Kz (akd tV) (λ_ _ _=>?_);rw[show DX [x,y]=x+y from by show x+(y+0)=_;omega];refine Tz (λ_ k=>?_);refine V0 ?_;exact⟨_,fG k,rfl,k.kept⟩
def aci {v:Int} (h:aY v=true):yu v=v:=by
 have:=zbd h;unfold yu wA
 split<;>omega
def XJ (v:Int):IntKind.i64.wrap (wA v)=yu v:=by
 rw[IntKind.wrap_i64];unfold yu wA
 split<;>omega
def ahg (v:Int):fits (yu v):=by
 unfold fits yu wA
 split<;>omega
def Um (v:Int) (h1: -3138550867693340381917894711603833208051177722232017256448<=v) (h2:v<3138550867693340381917894711603833208051177722232017256448):
    Rk prog 154 [agg (bZ v)] w (.tuple #[I (if aY v=true then v else 0),I (if aY v=true then 0 else 50)]):=by
  have H:=Sep.aH w;have hw:=agh h1 h2;refine dh func154 ?_;refine Sr (bB H (cs:=bZ v) rfl (h:=λb1 _ _ _=>?_));refine V4 ?_;refine Vv (Gives.zw (c:=yu v) rfl (XJ v)) (Dz (λk _ S=>?_));refine V1 ?_;refine jU k 2 S (h:=?_);refine dA k 1 [(2,false)] S (Uk (yu v) (ahg v)) (h:=λ_ S _=>⟨sU,?_⟩);refine Gp k 3 rfl rfl (λ_=>Gives.akK (enc:=Gd) (wA (yu v),wB (yu v),wC (yu v)) (wA v,wB v,wC v) rfl rfl) (fO k kR ?_);refine Cz (λk=>?_) (λk=>?_)
  . have hf: ¬aY v=true:=λh=>by
      obtain⟨e1,e2,e3⟩:=hw.2 h;exact k (by rw[e1,e2,e3])
    refine V2 ?_;exact⟨by rw[zaa hf,zaa hf];rfl,S.kept⟩
  have hf:aY v=true:=by
    have h:=Decidable.of_not_not k;injection h with h1 h2
    injection h2 with h2 h3
    exact hw.1 ⟨h1,h2,h3⟩
  refine V3 ?_;exact⟨by rw[zac hf,zac hf];exact zay (λz=>Value.tuple #[I z,I 0]) (aci hf),S.kept⟩
def ahh (a b:Int) (ha:0<=a) (Vz:a<18446744073709551616) (hb:0<=b) (hb2:b<18446744073709551616):aQ prog 409 [U a,U b] w λv w'=>v=.tuple #[U (a*b/18446744073709551616),U (a*b%18446744073709551616)]/\w=w':=by
 obtain⟨x,rfl⟩:=zfi ha;obtain⟨y,rfl⟩:=zfi hb;have:=Tryz.bits_Mul64 x y oM oM w;refine lH (Calls.mono this λe w' he=>?_);obtain⟨rfl,rfl⟩:=he;exact⟨by congr 2<;>simp[U],rfl⟩
def and_ones (a:Int) (h0:0<=a) (h1:a<18446744073709551616) (p:Prop) [Decidable p]:bits .and .u64 a (if p then 18446744073709551615 else 0)=if p then a else 0:=by
 obtain⟨x,rfl⟩:=zfi h0
 split
 .have h:=bits_and_u64_nat x 18446744073709551615 oM oM
  have e:x&&& 18446744073709551615=x%18446744073709551616:=Nat.and_two_pow_sub_one_eq_mod x 64;rw[e,Nat.mod_eq_of_lt oM]at h;exact h
 have h:=bits_and_u64_nat x 0 oM oM;rw[Nat.and_zero]at h;exact h
def ake (a b:Int) (ha:fits a) (hb:fits b):Rk prog 405 [I a,I b] w (agg (bZ (a*b))):=by
 have H:=Sep.aH w;obtain⟨m1,m2,m3⟩:=agi ha hb;obtain⟨⟨Vj,Vz⟩,_,_⟩:=mI a;obtain⟨⟨Fv,hb2⟩,_,_⟩:=mI b
 have hp:0<=wA a*wA b/18446744073709551616/\wA a*wA b/18446744073709551616<18446744073709551616:=by
  have h1:=Int.mul_nonneg Vj Fv;have h2:wA a*wA b<=18446744073709551615*18446744073709551615:=Int.mul_le_mul oM oM Fv dC;omega
 obtain⟨⟨k,k⟩,⟨hd1,G8⟩,_⟩:=mI (a*b);refine tN func405 ?_;refine Az (λb1 _ _ _=>?_);refine V1 ?_;refine Vv (Gives.zw (c:=wA a) rfl (by rw[IntKind.wrap_u64];rfl)) ?_;refine Mv ?_;refine Vv (Gives.zw (c:=wA b) rfl (by rw[IntKind.wrap_u64];rfl)) ?_;refine eG (ahh (wA a) (wA b) Vj Vz Fv hb2) (h:=?_);refine V7 ?_;refine Vv (Gives.zw (c:=wA a) rfl (by rw[IntKind.wrap_u64];rfl)) ?_;refine Mv ?_;refine eG (Gf b hb) (h:=?_);refine Vv (Gives.am6 rfl rfl (and_ones (wA a) Vj Vz (b<0))) (Mv ?_);refine Vv (Gives.zw (c:=wA b) rfl (by rw[IntKind.wrap_u64];rfl)) ?_;refine Mv ?_;refine eG (Gf a ha) (h:=?_);refine Vv (Gives.am6 rfl rfl (and_ones (wA b) Fv hb2 (a<0))) (Vv (Gives.akU rfl rfl (IntKind.wrap_u64 _)) ?_);refine Vv (Gives.am5 (c:=wB (a*b)) rfl rfl (by rw[IntKind.wrap_u64,m2])) ?_;refine V4 ?_;refine Vv (Gives.zw rfl rfl) (eG (Gf (IntKind.i64.wrap (wB (a*b))) (by unfold fits;rw[IntKind.wrap_i64];omega)) (h:=?_));refine Vb [U (wA a*wA b%18446744073709551616),U (wB (a*b)),U _] ?_;refine Tz (λ_ k=>?_);refine V0 ?_;exact⟨_,fG k,by
 show agg [U (wA a*wA b%18446744073709551616),U (wB (a*b)),U (if IntKind.i64.wrap (wB (a*b))<0 then 18446744073709551615 else 0)]=agg (bZ (a*b))
 unfold bZ;rw[m1,m3,IntKind.wrap_i64]
 congr 5
 split<;>split<;>first | rfl | omega,k.kept⟩
end
def Q9 (h:a.take i=b.take i):qZ nG a b=qZ nG (a.drop i) (b.drop i):=by
 induction i generalizing a b with
 | zero=>rfl
 | succ i ih=>
  cases a with
  | nil=>cases b with
   | nil=>rfl
   | cons y s=>simp at h
  | cons x r=>cases b with
   | nil=>simp at h
   | cons y s=>
    simp only[zdb,List.cons.injEq]at h;obtain⟨rfl,h⟩:=h;rw[zer,zer,<-ih h,qZ,zaa (by rw[FH.self];decide)]
def acj {x y:aC} (h:a.take i=b.take i) (hx:a[i]? =some x) (hy:b[i]? =some y) (iJ:nG x y≠0):jK a b=nG x y:=by
 unfold jK;rw[Q9 h]
 have ex:a.drop i=x::a.drop (i+1):=by
  obtain⟨hi,e⟩:=zax.1 hx;rw[<-e];exact zbn hi
 have ey:b.drop i=y::b.drop (i+1):=by
  obtain⟨hi,e⟩:=zax.1 hy;rw[<-e];exact zbn hi
 rw[ex,ey,qZ,zac iJ]
def vE (h:a.take i=b.take i) (hi:i=min a.length b.length):jK a b=xA (a.length:Int) (b.length:Int):=by
 unfold jK;rw[Q9 h]
 rcases Nat.lt_trichotomy a.length b.length with hl | hl | hl
 .have e1:a.drop i=[]:=zbu oM
  obtain⟨y,s,e2⟩: ∃y s,b.drop i=y::s:=zfc (by rw[zbo];omega);rw[e1,e2,qZ];unfold xA;rw[zac oM]
 .have e1:a.drop i=[]:=zbu oM
  have e2:b.drop i=[]:=zbu oM;rw[e1,e2,qZ];unfold xA;rw[zaa oM,zaa oM]
 have e1:b.drop i=[]:=zbu oM;obtain⟨y,s,e2⟩: ∃y s,a.drop i=y::s:=zfc (by rw[zbo];omega);rw[e1,e2,qZ];unfold xA;rw[zaa oM,zac oM]
section
variable {w:Wd}
def Ra (n:Int):aQ prog 306 [I n] w λv w'=>v=.bool false/\w=w':=by
 have H:=Sep.aH w;refine dh func306 ?_;refine V5 ?_;exact⟨zay Value.bool sM,rfl⟩
def aev (a b:Int):aQ prog 217 [I a,I b] w λv w'=>v=I (xA a b)/\w=w':=by
 have H:=Sep.aH w;refine bU func217 ?_;refine V2 ?_;refine eG (Ra a) (h:=?_);refine V2 ?_;refine eG (Ra b) (h:=?_);refine O2 ?_;refine Qn (Cd rfl (λk=>?_) (λk=>?_))
 .cases k
 refine O1 ?_;refine Qn (Cd rfl (λk=>?_) (λk=>?_))
 .cases k
 refine Cz (λk=>?_) (λk=>?_)
 .have h1:=k
  refine V1 ?_;exact⟨by unfold xA;rw[zac h1];rfl,rfl⟩
 have h1:=k;refine Cz (λk=>?_) (λk=>?_)
 .have h2:=k
  refine V1 ?_;exact⟨by unfold xA;rw[zaa h1,zac oM];rfl,rfl⟩
 have h2:=k;refine V1 ?_;exact⟨by unfold xA;rw[zaa h1,zaa oM];rfl,rfl⟩
def aew {va vb:Value} (ha:aJ w va ah 3 a) (hb:aJ w vb ah 3 b):Rk prog 157 [va,vb] w (I (jK a b)):=by
 obtain⟨A,m,rfl,⟨hm,nX⟩,hA⟩:=ha;obtain⟨B,n,rfl,⟨hn,hn'⟩,hB⟩:=hb;have H:=Sep.aH w;refine bU func157 ?_;refine V5 ?_;refine Vv (Gives.agS (m:=((min a.length b.length:Nat):Int)) rfl rfl oM) (V1 ?_);refine aI (λi:Nat=>[(0,.slice A a.length m),(1,.slice B b.length n),(11,I (min a.length b.length:Nat)),(12,I i)]) (λi w'=>(i<=min a.length b.length/\a.take i=b.take i)/\Sep w noB [] w') (λi _=>min a.length b.length-i) 0 tR ⟨⟨zai _,sM⟩,H⟩ (λi τ _ hI=>?_);obtain⟨⟨hi,dK⟩,k⟩:=hI;refine Lp ?_;refine Cz (λS=>?_) (λS=>?_)
 .have aX:i<a.length:=oM
  have Fg:i<b.length:=oM;obtain⟨x,hx⟩:=get_some aX;obtain⟨y,hy⟩:=get_some Fg;refine Dz (λS _ c=>?_);refine V8 ?_;refine dA S 8 _ c (sD x y) (h:=λ_ c _=>⟨sT,?_⟩);refine Cz (λS=>?_) (λS=>?_)
  .have hxy:=S
   refine V2 ?_;exact⟨by rw[acj dK hx hy hxy];rfl,c.kept⟩
  have hxy:x=y:=(FH.eq0 x y).1 (by have:=S;omega);have Qk:a.take (i+1)=b.take (i+1):=by rw[zat,zat,dK,hx,hy,hxy]
  refine V0 ?_;refine Vc ((i+1:Nat):Int) ?_;refine V1 ?_;exact aj (i+1) tR ⟨⟨oM,Qk⟩,c⟩ oM
 have jG:i=min a.length b.length:=oM;refine V4 ?_;refine eG (aev _ _) (h:=?_);refine V1 ?_;exact⟨by rw[vE dK jG];rfl,k.kept⟩
def KT {va vb:Value} (ha:aJ w va ah 3 a) (hb:aJ w vb ah 3 b):Rk prog 79 [va,vb] w (I (jK a b)):=by
 obtain⟨A,m,rfl,⟨hm,nX⟩,hA⟩:=ha;obtain⟨B,n,rfl,⟨hn,hn'⟩,hB⟩:=hb;have H:=Sep.aH w;refine bU func79 ?_;refine V2 ?_;refine aI (λi:Nat=>[(0,.slice A a.length m),(1,.slice B b.length n),(5,I i)]) (λi w'=>(i<=min a.length b.length/\a.take i=b.take i)/\Sep w noB [] w') (λi _=>min a.length b.length-i) 0 tR ⟨⟨zai _,sM⟩,H⟩ (λi τ _ hI=>?_);obtain⟨⟨hi,dK⟩,k⟩:=hI;refine Lp ?_;refine Sz (λS=>?_) (λS=>?_)
 .have avI:=S
  refine Cz (λc=>?_) (λc=>?_)
  .have aX:i<a.length:=oM
   have Fg:i<b.length:=oM;obtain⟨x,hx⟩:=get_some aX;obtain⟨y,hy⟩:=get_some Fg;refine Dz (λd _ e=>?_);refine V8 ?_;refine dA d 8 _ e (Lb x y) (h:=λ_ e _=>⟨sT,?_⟩);refine Cz (λd=>?_) (λd=>?_)
   .have hxy:=d
    refine V2 ?_;exact⟨by rw[acj dK hx hy hxy];rfl,e.kept⟩
   have hxy:x=y:=(FH.eq0 x y).1 (by have:=d;omega);have Qk:a.take (i+1)=b.take (i+1):=by rw[zat,zat,dK,hx,hy,hxy]
   refine V1 ?_;refine Vc ((i+1:Nat):Int) ?_;refine V1 ?_;exact aj (i+1) tR ⟨⟨oM,Qk⟩,e⟩ oM
  have jG:i=min a.length b.length:=by have h:=c;omega
  refine Cz (λd=>?_) (λd=>?_)
  .have h35:=d
   refine V1 ?_;exact⟨by rw[vE dK jG];unfold xA;rw[zac oM];rfl,k.kept⟩
  have h35:=d;refine Cz (λd=>?_) (λd=>?_)
  .have h40:=d
   refine V1 ?_;exact⟨by rw[vE dK jG];unfold xA;rw[zaa oM,zac oM];rfl,k.kept⟩
  have h40:=d;refine V1 ?_;exact⟨by rw[vE dK jG];unfold xA;rw[zaa oM,zaa oM];rfl,k.kept⟩
 have jG:i=min a.length b.length:=by have h:=S;omega
 refine Cz (λd=>?_) (λd=>?_)
 .have h35:=d
  refine V1 ?_;exact⟨by rw[vE dK jG];unfold xA;rw[zac oM];rfl,k.kept⟩
 have h35:=d;refine Cz (λd=>?_) (λd=>?_)
 .have h40:=d
  refine V1 ?_;exact⟨by rw[vE dK jG];unfold xA;rw[zaa oM,zac oM];rfl,k.kept⟩
 have h40:=d;refine V1 ?_;exact⟨by rw[vE dK jG];unfold xA;rw[zaa oM,zaa oM];rfl,k.kept⟩
def PW {l:List aC} (hl:aJ w v ah 3 l) (mU:l.length<=1000):aQ prog 216 [v] w λv' w'=>∃x,v'=x/\True/\Turn noB (aU 47 3 ah x l) w w':=by
 obtain⟨A,m,rfl,⟨hm,nX⟩,hA⟩:=hl;have H:=Sep.aH w;refine dh func216 ?_;refine O3 ?_;refine Qn (Cd rfl (λk=>?_) (λk=>?_))
 .have hA0:A=none:=by have h:=k;cases A<;>first | rfl | cases h
  have Jb:l=[]:=by
   cases l with
   | nil=>rfl
   | cons x l=>obtain⟨ad,he⟩:=hA.addr (Nat.succ_pos _);rw[hA0]at he;cases he
  have k:=Sep.iW H 47 3 ah;refine V1 ?_;exact⟨_,rfl,trivial,by rw[Jb];exact k.turn⟩
 refine V0 ?_;refine Bs H [] (λbs _ k _=>?_);have k:Sep w noB (aU 47 3 ah (.slice (some ⟨bs,0,none⟩) 0 0) ([]:List aC)::[]) _:=Sep.nU (n:=0) k At0 rfl dC;refine Mv ?_;refine ni k At0 (hA.keep k.kept) (by unfold maxLen;simp;omega) (by simp;omega) (cells_one (λ_=>rfl) _) (h:=?_);intro v2 k k;refine V1 ?_;exact⟨_,rfl,trivial,by rw[zbw]at k;exact k.turn⟩
def Ah {l:List bT} (hl:aJ w v aM 7 l) (mU:l.length<=1000):aQ prog 29 [v] w λv' w'=>∃x,v'=x/\True/\Turn noB (aU 49 7 aM x l) w w':=by
 obtain⟨A,m,rfl,⟨hm,nX⟩,hA⟩:=hl;have H:=Sep.aH w;refine dh func29 ?_;refine O3 ?_;refine Qn (Cd rfl (λk=>?_) (λk=>?_))
 .have hA0:A=none:=by have h:=k;cases A<;>first | rfl | cases h
  have Jb:l=[]:=by
   cases l with
   | nil=>rfl
   | cons x l=>obtain⟨ad,he⟩:=hA.addr (Nat.succ_pos _);rw[hA0]at he;cases he
  have k:=Sep.iW H 49 7 aM;refine V1 ?_;exact⟨_,rfl,trivial,by rw[Jb];exact k.turn⟩
 refine V0 ?_;refine Bs H [] (λbs _ k _=>?_);have k:Sep w noB (aU 49 7 aM (.slice (some ⟨bs,0,none⟩) 0 0) ([]:List bT)::[]) _:=Sep.nU (n:=0) k At0 rfl dC;refine Mv ?_;refine ni k At0 (hA.keep k.kept) (by unfold maxLen;simp;omega) (by simp;omega) (cells_one (λ_=>rfl) _) (h:=?_);intro v2 k k;refine V1 ?_;exact⟨_,rfl,trivial,by rw[zbw]at k;exact k.turn⟩
def yA {l:List bL} (hl:aJ w v aN 3 l) (mU:l.length<=1000):aQ prog 63 [v] w λv' w'=>∃x,v'=x/\True/\Turn noB (aU 66 3 aN x l) w w':=by
 obtain⟨A,m,rfl,⟨hm,nX⟩,hA⟩:=hl;have H:=Sep.aH w;refine dh func63 ?_;refine O3 ?_;refine Qn (Cd rfl (λk=>?_) (λk=>?_))
 .have hA0:A=none:=by have h:=k;cases A<;>first | rfl | cases h
  have Jb:l=[]:=by
   cases l with
   | nil=>rfl
   | cons x l=>obtain⟨ad,he⟩:=hA.addr (Nat.succ_pos _);rw[hA0]at he;cases he
  have k:=Sep.iW H 66 3 aN;refine V1 ?_;exact⟨_,rfl,trivial,by rw[Jb];exact k.turn⟩
 refine V0 ?_;refine Bs H [] (λbs _ k _=>?_);have k:Sep w noB (aU 66 3 aN (.slice (some ⟨bs,0,none⟩) 0 0) ([]:List bL)::[]) _:=Sep.nU (n:=0) k At0 rfl dC;refine Mv ?_;refine ni k At0 (hA.keep k.kept) (by unfold maxLen;simp;omega) (by simp;omega) (cells_one (λ_=>rfl) _) (h:=?_);intro v2 k k;refine V1 ?_;exact⟨_,rfl,trivial,by rw[zbw]at k;exact k.turn⟩
def qp {l:List aC} (hl:aJ w v ah 3 l) (mU:l.length<=1000):aQ prog 155 [v] w λv' w'=>∃x,v'=x/\True/\Turn noB (aU 47 3 ah x l) w w':=by
 have H:=Sep.aH w;refine dh func155 ?_;refine Nz (PW hl mU) (λvx _ _ k _=>?_);refine V1 ?_;exact⟨_,rfl,trivial,k.turn⟩
end
def usC (q:List Int):LV:=q.map U
def iI (v:Int):LV:=usC (Lu v)
def Gg (v:Int):(Lu v).length=6:=rfl
def Un (v:Int) (hi:i<6):(Lu v)[i]? =some (dgt v i):=by
 unfold Lu;rw[zbz,List.getElem?_range hi];rfl
def oP (v:Int) {i:Nat} (hi:i<6):(iI v)[0+i*1]? =some (U (dgt v i)):=by
 unfold iI usC;rw[zdc,zfd,zbz,Un v hi];rfl
def acn (q:List Int):(usC q).length=q.length:=zae ..
def aco (q:List Int) (i:Nat) (a:Int):(usC q).set i (U a)=usC (q.set i a):=by unfold usC;rw[List.map_set]
def y9 (A:List Int) (i:Nat):List Int:=A.take i++List.replicate (A.length-i) 0
def Rb {A:List Int} (h:i<=A.length):(y9 A i).length=A.length:=by
 unfold y9;rw[zad,zah,zcx];omega
def Rc {A:List Int} {a:Int} (h:A[i]? =some a):(y9 A i).set i a=y9 A (i+1):=by
 have hl:=fI h;unfold y9;have h1:(A.take i).length=i:=by rw[zah];omega
 rw[zed _ _ oM,h1,zec,show A.length-i=(A.length-(i+1))+1 from oM,zes,zdf,zat,h,zbm];rfl
def Rf (A:List Int):y9 A A.length=A:=by unfold y9;rw[zbq,zec];simp
section
variable {w:Wd}
def Gh (n:Int) (hn:fits n):Rk prog 270 [I n] w (agg (iI n)):=by
 have H:=Sep.aH w
 have h0:(wA n).tmod 4294967296=dgt n 0:=by
  have:=(mI n).1;rw[zet this.1];show wA n%_=n%_
  unfold wA;omega
 have h1:IntKind.u64.wrap ((wA n).tdiv 4294967296)=dgt n 1:=by
  have:=(mI n).1;rw[IntKind.wrap_u64,zeu this.1];show wA n/_%_=n/_%_
  unfold wA;omega
 have hq:=hn.1;have hr:=hn.2;have e2:dgt n 2=n/4294967296/4294967296%4294967296:=rfl;have e3:dgt n 3=n/4294967296/4294967296/4294967296%4294967296:=rfl;have e4:dgt n 4=n/4294967296/4294967296/4294967296/4294967296%4294967296:=rfl;have e5:dgt n 5=n/4294967296/4294967296/4294967296/4294967296/4294967296%4294967296:=rfl;have e:iI n=[U (dgt n 0),U (dgt n 1),U (dgt n 2),U (dgt n 3),U (dgt n 4),U (dgt n 5)]:=rfl;refine pE func270 ?_;refine Az (λb1 _ _ _=>?_);refine V1 ?_;refine Vv (Gives.zw (c:=wA n) rfl (by rw[IntKind.wrap_u64];rfl)) ?_;refine Cz (λk=>?_) (λk=>?_)
 .have hc:=k
  have e':iI n=[U (dgt n 0),U (dgt n 1),U 4294967295,U 4294967295,U 4294967295,U 4294967295]:=by
   rw[e,show dgt n 2=4294967295 from oM,show dgt n 3=4294967295 from oM,show dgt n 4=4294967295 from oM,show dgt n 5=4294967295 from oM]
  refine V2 ?_;refine Vv (Gives.akW (c:=dgt n 0) rfl rfl dC h0) (Mv ?_);refine Vv (Gives.akV (c:=dgt n 1) rfl rfl dC h1) (V4 ?_);refine Vv (Gives.Bu rfl (Fills.one rfl rfl rfl sM rfl (Fills.one rfl rfl rfl sM rfl (Fills.one rfl rfl rfl sM rfl (Fills.one rfl rfl rfl sM rfl (Fills.one rfl rfl rfl sM rfl (Fills.one rfl rfl rfl sM rfl Fills.nil))))))) (Tz (λ_ S=>?_));refine V0 ?_;exact⟨_,fG S,by rw[e'];rfl,S.kept⟩
 have hc:=k
 have e':iI n=[U (dgt n 0),U (dgt n 1),U 0,U 0,U 0,U 0]:=by
  rw[e,show dgt n 2=0 from oM,show dgt n 3=0 from oM,show dgt n 4=0 from oM,show dgt n 5=0 from oM]
 refine V1 ?_;refine Vv (Gives.akW (c:=dgt n 0) rfl rfl dC h0) (Mv ?_);refine Vv (Gives.akV (c:=dgt n 1) rfl rfl dC h1) (V4 ?_);refine Vv (Gives.Bu rfl (Fills.one rfl rfl rfl sM rfl (Fills.one rfl rfl rfl sM rfl (Fills.one rfl rfl rfl sM rfl (Fills.one rfl rfl rfl sM rfl (Fills.one rfl rfl rfl sM rfl (Fills.one rfl rfl rfl sM rfl Fills.nil))))))) (Tz (λ_ S=>?_));refine V0 ?_;exact⟨_,fG S,by rw[e'];rfl,S.kept⟩
def JF (x y:Int):Rk prog 183 [agg (iI x),agg (iI y)] w (agg (iI (x+y))):=by
 have H:=Sep.aH w;refine tN func183 ?_;refine Sr (bB H (cs:=iI x) rfl (h:=λb2 w2 H2 k1=>?_));refine bB H2 (cs:=iI y) rfl (h:=λb3 w4 H4 k3=>?_);refine Az (λb4 w6 H6 k5=>?_);refine Az (λb5 w8 H8 k7=>?_);refine V2 ?_;refine aI (λi:Nat=>[(2,av b2),(3,av b3),(4,av b4),(5,av b5),(6,U (shl (x+y) i-shl x i-shl y i)),(7,I i)]) (λi w'=>i<=6/\Sep w noB [blk b5 (usC (y9 (Lu (x+y)) i)) 265,blk b4 (usC [0,0,0,0,0,0]) 265,blk b3 (iI y) 265,blk b2 (iI x) 265] w') (λi _=>6-i) 0 ⟨rfl,rfl,rfl,rfl,zay U (by show 0=x+y-x-y;omega),rfl,trivial⟩ ⟨zai _,H8⟩ (λi τ wa hI=>?_);obtain⟨hi,Ha⟩:=hI;refine Lp ?_;refine Cz (λIe=>?_) (λIe=>?_)
 .have aX:i<6:=oM
  obtain⟨hd1,G8⟩:=ajP x y i;have hca:=TF x y i;have hbx:=nI x i;have hby:=nI y i;have hbz:=nI (x+y) i;refine Dz (λSa wb Hb=>?_);refine V1 ?_;refine Gp Sa 1 rfl rfl (λ_=>(Gives.j6 rfl rfl oM)) (vR Sa 2 Hb (hv:=oP x aX) (h:=?_));refine V1 ?_;refine Gp Sa 4 rfl rfl (λ_=>(Gives.j6 rfl rfl oM)) (vR Sa 5 Hb (hv:=oP y aX) (h:=?_));refine GS (Gn rfl (λ_=>Gives.akU (c:=dgt x i+dgt y i) rfl rfl (by rw[IntKind.wrap_u64];omega)) ?_);refine V1 ?_;refine GS (Gn rfl (λ_=>Gives.akU (c:=dgt x i+dgt y i+(shl (x+y) i-shl x i-shl y i)) rfl rfl (by rw[IntKind.wrap_u64];omega)) ?_);refine V3 ?_;refine Vv (Gives.akW (c:=dgt (x+y) i) rfl rfl dC (by rw[zet oM,hd1])) ?_;refine Vv (Gives.j6 rfl rfl oM) (sK Hb (cs':=usC (y9 (Lu (x+y)) (i+1))) (ho:=UY (by rw[acn,Rb (by rw[Gg];omega),Gg];omega)) (hs:=by rw[zdc,zfd];exact(aco _ _ _).trans (zay usC (Rc (Un _ aX)))) (h:=λwc Hc=>?_));refine V1 ?_;refine Vv (Gives.akV (c:=shl (x+y) (i+1)-shl x (i+1)-shl y (i+1)) rfl rfl dC (by rw[G8,IntKind.wrap_u64,zeu oM];omega)) ?_;refine V2 ?_;refine Vc ((i+1:Nat):Int) ?_;refine V1 ?_;exact aj (i+1) tR ⟨oM,Hc⟩ oM
 have h6:i=6:=oM;subst h6;refine V0 ?_;rw[show y9 (Lu (x+y)) 6=Lu (x+y)from Rf _]at Ha;refine fQ Ha (cs:=iI (x+y)) (h:=?_);refine Tz (λwd Hd=>?_);refine V0 ?_;exact⟨_,fG Hd,rfl,Hd.kept⟩
def JG (x:Int):Rk prog 271 [agg (iI x)] w (agg (iI (-x))):=by
 have H:=Sep.aH w;refine pE func271 ?_;refine Sr (bB H (cs:=iI x) rfl (h:=λb1 w2 H2 k1=>?_));refine Az (λb2 w4 H4 k3=>?_);refine Az (λb3 w6 H6 k5=>?_);refine V1 ?_;refine aI (λi:Nat=>[(1,av b1),(2,av b2),(3,av b3),(4,I i)]) (λi w'=>i<=6/\Sep w noB [blk b3 (usC (y9 (Lu (-1-x)) i)) 265,blk b2 (usC [0,0,0,0,0,0]) 265,blk b1 (iI x) 265] w') (λi _=>6-i) 0 tR ⟨zai _,H6⟩ (λi τ w9 hI=>?_);obtain⟨hi,H9⟩:=hI;refine Lp ?_;refine Cz (λIe=>?_) (λIe=>?_)
 .have aX:i<6:=oM
  have hdn:=ajQ x i;have hbx:=nI x i;refine V2 ?_;refine Vv (Gives.j6 rfl rfl oM) (Me H9 (hv:=oP x aX) (h:=?_));refine Vv (Gives.am5 (c:=dgt (-1-x) i) rfl rfl (by rw[IntKind.wrap_u64];omega)) ?_;refine Vv (Gives.j6 rfl rfl oM) (sK H9 (cs':=usC (y9 (Lu (-1-x)) (i+1))) (ho:=UY (by rw[acn,Rb (by rw[Gg];omega),Gg];omega)) (hs:=by rw[zdc,zfd];exact(aco _ _ _).trans (zay usC (Rc (Un _ aX)))) (h:=λwa Ha=>?_));refine V1 ?_;refine Vc ((i+1:Nat):Int) ?_;refine V1 ?_;exact aj (i+1) tR ⟨oM,Ha⟩ oM
 have h6:i=6:=oM;subst h6;refine V0 ?_;rw[show y9 (Lu (-1-x)) 6=Lu (-1-x)from Rf _]at H9;refine fQ H9 (cs:=iI (-1-x)) (h:=?_);refine Vv (Gives.Bu rfl (Fills.one rfl rfl rfl sM rfl Fills.nil)) (Kz (JF (-1-x) 1) (λwb Hb ka=>?_));rw[show -1-x+1= -x from oM];refine iB Hb (us:=iI (-x)) (h:=λwc Hc=>?_);refine V0 ?_;exact⟨_,fG Hc,rfl,Hc.kept⟩
end
end
end Go.Proofs.Mw
