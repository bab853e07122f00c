/-
 The program's Parse of a plan,walked.
-/
import Derived.Test.YtjcgliljofbopaaGreatDoorNv18
set_option linter.all false
set_option maxRecDepth 4000
namespace Go.Proofs.Mw
open Go.Lib Go.Proofs.Tryz
section
attribute [local irreducible] FW FL FG FGn jK jO fI lU Qfn Gives
def WG (x:L8):(∃l,x=lV l/\Lib.trimSuffix x [10]=l/\Lib.hasSuffix x [10]=true)\/((∀l,x≠lV l)/\Lib.trimSuffix x [10]=x/\Lib.hasSuffix x [10]=false):=by
 by_cases h:Lib.hasSuffix x [10]=true
 .have h':=h
  unfold Lib.hasSuffix at h';obtain⟨l,hl⟩:=List.isSuffixOf_iff_suffix.1 h';refine .inl ⟨l,hl.symm,?_,h⟩;unfold Lib.trimSuffix;rw[zac h,<-hl];simp
 refine .inr ⟨λl e=>h ?_,?_,by simpa using h⟩
 .unfold Lib.hasSuffix
  exact List.isSuffixOf_iff_suffix.2 ⟨l,e.symm⟩
 unfold Lib.trimSuffix;rw[zab h]
def plJ (b2 b3 b4 b5:Nat) (pre:List (L8)):HP:=exH λz:List (L8)×aU×Int=>jf [jB (pre=z.1.map lV/\uP z.1=some (z.2.1,z.2.2)),blk b2 [.slice none 0 0,.slice none 0 0,I 0] 26,blk b3 [I (pre.length:Nat)] 3,blk b4 [I 0] 29,Kh b5 z.2.1 z.2.2]
def plL (b2 b3 b4:Nat) (pre:List (L8)) (x:L8):HP:=jf [jB (∃ls p st,pre=ls.map lV/\uP ls=some (p,st)/\((∃l,x=lV l/\jJ p st l=none)\/∀l,x≠lV l)),blk b2 [.slice none 0 0,.slice none 0 0,I 0] 26,blk b3 [I (pre.length:Nat)] 3,blk b4 [I 4] 29]
def adA {s:L8} {ls:List (L8)} {x:L8} {p:aU} {st:Int} (hs:s.length<=1048576) (hp:ls.map lV++[x]<+:rV s) (hr:uP ls=some (p,st)) (hx:(∃l,x=lV l/\jJ p st l=none)\/∀l,x≠lV l):qC s=(mq,(((ls.map lV).length:Nat):Int),4):=by
 rw[zaf]
 rcases Zu hp with⟨l,rest,e,hf⟩ | ⟨hw,hf,l9⟩
 .rcases hx with⟨l',e',hn⟩ | hx
  .have :l=l':=Wq (e.symm.trans e')
   subst this;exact Zq hs hf hr hn
  exact zar e (hx l)
 unfold Qm at hf;rw[hw,zab dC]at hf;rw[hf]at hr ⊢;exact Zr hs hw hr
section
variable {w:Wd}
def Zy (l:L8):aR prog 72 [str l,.int .u8 10] w λv w'=>v=I (Lib.indexByte l 10)/\w=w':=
 j6 (Tryz.strings_IndexByte ⟨l.toArray⟩ 10 w)
def agl (s:L8):aR prog 42 [str s] w λv w'=>∃x:Nat,v=.func (.func 71) #[] #[ay x]/\True/\Turn noB (blk x [str s] 9) w w':=by
 have H:=Sep.aF w;refine cK func42 ?_;refine Sr (bB H (cs:=[str s]) rfl (h:=λb1 _ k _=>?_));refine Zb1 ?_;refine Vv (Gives.makeFunc (fs:=[]) (us:=[]) (cs:=[.tmp 1]) rfl rfl) (Zb1 ?_);exact⟨b1,rfl,trivial,k.turn⟩
def Tx (x:L8) (hl:x.length<=10000000):aR prog 43 [str x,str [10]] w λv w'=>v=.tuple #[str (Lib.trimSuffix x [10]),.bool (Lib.hasSuffix x [10])]/\w=w':=
 j6 (Tryz.strings_CutSuffix ⟨x.toArray⟩ ⟨#[10]⟩ w (by rw[Mw.size_mk];omega))
def ZA {S:NP} {w0:Wd} {J:List (L8)->HP} {L:List (L8)->L8->HP} {l D:Nat} {ro rj:Obj} {bS:Nat} {s:L8} (hl:s.length<=1048576)
    (HW:Sep w0 S [obj l ro,obj D (.deferred (some [])),J [],blk bS [str s] 9] w)
    (hy: ∀(pre:List (L8)) (x:L8) (Fr:List HP) (W:Wd),pre++[x]<+:rV s->Sep w0 S (obj l ro::obj D (.deferred (some []))::J pre::Fr) W->Uh prog l [str x] W λb W'=>if b=true then Sep w0 S (obj l ro::obj D (.deferred (some []))::J (pre++[x])::Fr) W' else Sep w0 S [obj l rj,obj D (.deferred (some [])),L pre x] W'):
    aR prog 71 [.func (.yield l) #[] #[],ay bS] w λ_ W'=>Sep w0 S [obj l ro,obj D (.deferred (some [])),J (rV s)] W'\/∃pre x,pre++[x]<+:rV s/\Sep w0 S [obj l rj,obj D (.deferred (some [])),L pre x] W':=by
  have H:=HW;refine bQ func71 ?_;refine Zb0 ?_;refine aI (λ_:List (L8)×L8=>[(0,.func (.yield l) #[] #[]),(1,ay bS)]) (λx w'=>(x.1++rV x.2=rV s/\x.2.length<=s.length)/\Sep w0 S [obj l ro,obj D (.deferred (some [])),J x.1,blk bS [str x.2] 9] w') (λx _=>x.2.length) ([],s) tR ⟨⟨rfl,zbj _⟩,H⟩ (λx τ w2 hI=>?_);obtain⟨pre,t⟩:=x;obtain⟨⟨D7,AJ⟩,H2⟩:=hI;dsimp only at D7 AJ H2;refine Lp ?_;refine Cz (λhc6=>?_) (λhc6=>?_)
  . have iN:t≠[]:=λe=>by rw[e]at hc6;exact zar hc6 dC
    refine Zb2 ?_;refine eB (Zy t) (h:=?_);refine Cz (λIe=>?_) (λIe=>?_)
    . obtain⟨o,ho⟩: ∃o:Nat,Lib.indexByte t 10=o:=⟨(Lib.indexByte t 10).toNat,by have h1:=Ie;omega⟩
      obtain⟨aqP,hot,_⟩:=Fz ho;have hrs:=adq ho
      have jA:pre++[t.take (o+1)]<+:rV s:=by
        rw[<-D7,hrs];exact⟨rV (t.drop (o+1)),sM⟩
      rw[ho];refine Dz (λSa wa Ha=>?_);refine Zb2 ?_;refine Gp Sa 2 rfl rfl (λ_=>(Gives.RQ (c:=((o+1:Nat):Int)) rfl rfl (by show(o:Int)+1=_;omega) oM)) (Gp Sa 3 rfl rfl (λ_=>(Gives.sw (i:=o+1) rfl rfl oM)) ?_);refine Zb2 ?_;refine Gp Sa 6 rfl rfl (λ_=>(Gives.RQ (c:=((o+1:Nat):Int)) rfl rfl (by show(o:Int)+1=_;omega) oM)) (Gp Sa 7 rfl rfl (λ_=>(Gives.pW (i:=o+1) rfl rfl oM)) ?_);refine Zb1 ?_;refine lX Sa 9 _ Ha (h:=λwb Hb=>⟨sT,?_⟩);refine Zb2 ?_;refine Db rfl (hy pre (t.take (o+1)) _ _ jA Hb) rfl rfl (λb8 wc UM=>?_);refine Vv (Gives.not rfl) (Qn ?_);refine Cd rfl (λIf=>?_) (λIf=>?_)
      . have hb:b8=false:=by have h1:=If;revert h1;cases b8<;>simp
        rw[hb,zab dC]at UM;refine Zb0 ?_;exact .inr ⟨pre,t.take (o+1),jA,UM⟩
      have hb:b8=true:=by have h1:=If;revert h1;cases b8<;>simp
      rw[hb,zac rfl]at UM;have Hc:=UM;refine Zb0 ?_;exact aj (pre++[t.take (o+1)],t.drop (o+1)) tR ⟨⟨by dsimp only;rw[<-D7,hrs];simp,by dsimp only;rw[zbo];omega⟩,Hc⟩ (by dsimp only;rw[zbo];omega)
    have Ym:Lib.indexByte t 10= -1:=by have h1:=Ie;have h2:=Lib.indexByte_ge t 10;omega
    have hrs:=adp Ym iN;have jA:pre++[t]<+:rV s:=by rw[<-D7,hrs];exact List.prefix_refl _
    refine Uz (λwd Hd=>?_);refine Zb2 ?_;refine Db rfl (hy pre t _ _ jA Hd) rfl rfl (λb8 we UM=>?_);refine Vv (Gives.not rfl) (Qn ?_);refine Cd rfl (λIg=>?_) (λIg=>?_)
    . have hb:b8=false:=by have h1:=Ig;revert h1;cases b8<;>simp
      rw[hb,zab dC]at UM;refine Zb0 ?_;exact .inr ⟨pre,t,jA,UM⟩
    have hb:b8=true:=by have h1:=Ig;revert h1;cases b8<;>simp
    rw[hb,zac rfl]at UM;have He:=UM;refine Zb0 ?_;exact aj (pre++[t],[]) tR ⟨⟨by dsimp only;rw[<-D7,hrs,Ws,zbw],sM⟩,He⟩ (by have:=zfj.2 iN;dsimp only;simpa using this)
  have he:t=[]:=zbg oM;subst he;rw[Ws,zbw]at D7;refine Zb0 ?_;exact .inl (by rw[<-D7];exact H2.firsts (l:=[_,_,_]))
end
end
variable {x y:Od} {i m:Nat}
open Go.RowKit
section
variable {P:Program} {r:Option Nat} {n:Nat} {ops:AO} {Q:Post} {rest:LO} {σ:St} {w w0:Wd} {S:NP} {rs:List HP} {put:HP->List HP} {ty:Td} {pos:String} {after:Array Edge} {lv:List Bool} {pd:LNB} {guard:Option (Nat×Bool)}
variable {α:Type} {enc:α->LV} {k e c:Nat} {l:List α} {A:OA}
def Qx (hk: ∀x,(enc x).length=k) (a':α): ∀{l:List α} {i:Nat},i<l.length->(l.flatMap enc).take (i*k)++enc a'++(l.flatMap enc).drop (i*k+k)=(l.set i a').flatMap enc
 | [],_,h=>zar h sM
 | x::l,0,_=>by
  rw[Nat.zero_mul,zdf,zbu,zcz,zdr,zbh,zbh,List.drop_left' (hk x)]
 | x::l,i+1,h=>by
  have ih:=Qx hk a' (l:=l) (i:=i) (by simpa using h);have hx:=hk x;rw[zfq,zbh,zbh,List.take_append,zaj (by rw[hx,zeg];omega),List.drop_append,zbv (by rw[hx,zeg];omega),hx,show(i+1)*k-k=i*k by rw[zeg];omega,show(i+1)*k+k-k=i*k+k by rw[zeg];omega,zbu,zbm,zbm,<-zbm ((l.flatMap enc).take (i*k)),ih]
def FC {ρ:Od->Value} {T:Td} [h1:Agg P T k] [hk:je enc k] (a':α) (hm:m=l.length) (H:Sep w0 S rs w) (hat:At rs (aY e k enc (.slice A m c) l) put) (hi:i<l.length) (hx:ρ x=adr A (i*k)) (hy:ρ y=.agg (enc a').toArray) (hv:(enc a').all Value.oneCell'=true):
    ∃w',OV P ρ (.store T x y) ty w w'/\Sep w0 S (put (aY e k enc (.slice A m c) (l.set i a'))) w':=by
  subst hm;obtain⟨F,hp,hS,j5⟩:=H.focus hat;have H0:=Sep.bR hp;obtain⟨g,c',rest,hvv,hlen,hxl,rG,Ye,H1⟩:=H0.abP At0 oM;injection hvv with hA _ hc
  subst hA;subst hc;have hb:=H1.obj At0;have Ll:=jq hk.len l;have hu:(enc a').length=k:=hk.len a';have Yb:(i+1)*k<=l.length*k:=zex k hi;rw[zeg]at Yb;have dJ:=run_storeCells_at P g (i*k) e (enc a') 0 (l.flatMap enc++rest).toArray w hb (by simp only[zft,zad,Ll,hu];omega) (λu hu=>zaz.1 hv u hu)
  have hs:(l.flatMap enc++rest).take (i*k)++enc a'++(l.flatMap enc++rest).drop (i*k+(enc a').length)=(l.set i a').flatMap enc++rest:=by
    rw[hu,zei (by rw[Ll];omega),zej (by rw[Ll];omega),<-Qx hk.len a' hi];simp only[zbm]
  have bZ:Kept (λz=>z=g) w (w.setRow g ((l.set i a').flatMap enc++rest).toArray):=⟨rfl,rfl,rfl,sM,λj hj hS=>by simp only[World.setRow,zdk];rw[zab (λe=>hS e.symm)]⟩
  have KI:(w.setRow g ((l.set i a').flatMap enc++rest).toArray).heap[g]? =some (.cells ((l.set i a').flatMap enc++rest).toArray e (0,0)):=by
    simp only[World.setRow,zdk,if_true,hb,zdu]
  have H3:Sep w F [blk g ((l.set i a').flatMap enc++rest) e] _:=H1.setObj (At0 (p:=blk g (l.flatMap enc++rest) e) (l:=[])) bZ KI;have aaM:=jq hk.len (l.set i a');rw[zdx]at aaM;have H4:=H3.abQ (n:=l.length) (c:=c) At0 (by rw[zad,aaM];rw[zad,Ll]at hlen;exact hlen) aaM rG Ye;refine⟨w.setRow g ((l.set i a').flatMap enc++rest).toArray,λ_ _ _ _=>?_,?_⟩
  . have oZ:ρ x=.pointer (some ⟨g,i*k,none⟩):=by rw[hx];show Value.pointer (some (Addr.add ⟨g,0,none⟩ (i*k)))=_;rw[Addr.add_lit,zcz]
    have Dv:=dJ;simp only[zfb]at Dv;rw[hs]at Dv;simp[execOp,oZ,hy,Instr.storeAt,Instr.sureAddr,storeVar,h1.size,Value.cells,hu];rw[Dv];simp
  obtain⟨h5,F5,h6,h7⟩:=H4;refine j5 _ F5 _ h5 ?_ λb hb=>h7 b hb;have h8:=Da.1 h6;show(uR e k (.slice (some ⟨g,0,none⟩) l.length c) (l.set i a').length ((l.set i a').flatMap enc)).ok F5 _
  rw[zdx];exact h8
def Jb (eZ:dS n ops=true) (o:Nat) (pd':LNB) {T:Td} [h1:Agg P T k] [hk:je enc k] {i:Nat} (a':α) (hm:m=l.length) (H:Sep w0 S rs w) (hat:At rs (aY e k enc (.slice A m c) l) put) (hi:i<l.length) (hv:(enc a').all Value.oneCell'=true)
    (ho:ops[o]? =some ⟨none,.store T x y,ty,pos,after,guard⟩:=by exact rfl)
    (hw:Region.wanted ⟨none,.store T x y,ty,pos,after,guard⟩ (bU ops σ)=true:=by kernel_rfl) (hx:evF σ x=adr A (i*k):=by exact rfl) (hy:evF σ y=.agg (enc a').toArray:=by exact rfl)
    (dX:fu ops lv (pd.map (·.1)) o=true:=by kernel_rfl) (oo:pd.filter (λp=> !((above ops o).contains p.1))=pd':=by exact pD)
    (h: ∀w',Sep w0 S (put (aY e k enc (.slice A m c) (l.set i a'))) w'->jm P ops σ w' pd'/\FG P r n ops Q (lv.set o true) pd' σ w'):FG P r n ops Q lv pd σ w:=
  WK eZ o pd' ho hw (FC a' hm H hat hi hx hy hv) dX oo h
end
def J8.set {r:List aC} {c:aC} (h:J8 m r) (hc:fits c.n/\∀b,okC (abk b i).type c):J8 m (r.set i c):=by
 refine⟨by rw[zdx];exact h.len,λy hy=>?_,λb j d hd=>?_⟩
 .rcases List.mem_or_eq_of_mem_set hy with h1 | h1
  .exact h.fit y h1
  rw[h1];exact hc.1
 by_cases hj:i=j
 .subst hj
  rw[List.getElem?_set_self']at hd;cases hg:r[i]? with
  | none=>rw[hg]at hd;cases hd
  | some z=>rw[hg]at hd;simp at hd;rw[<-hd];exact hc.2 b
 rw[List.getElem?_set_ne hj]at hd;exact h.ok b j d hd
variable {w:Wd}
variable {k:Nat} {v:Value}
def M4 {P:Program} {T U V:Td} [Agg P T k] [OneCell P U] [OneCell P V] {σ:St} {a b c x y z:Nat} {us:LV} {u:Value} {E F G:Td} (hx:w.heap[x]? =some (.cells us.toArray E (0,0))) (hy:w.heap[y]? =some (.cells [v].toArray F (0,0))) (hz:w.heap[z]? =some (.cells [u].toArray G (0,0)))
    (hk:us.length=k:=by exact rfl) (ha:σ a=.pointer (some ⟨x,0,none⟩):=by exact rfl) (hb:σ b=.pointer (some ⟨y,0,none⟩):=by exact rfl) (hc:σ c=.pointer (some ⟨z,0,none⟩):=by exact rfl):qJ P σ w [.cell a T,.cell b U,.cell c V] [.agg us.toArray,v,u]:=
  ⟨_,[v,u],⟨x,0,none⟩,rfl,ha,mP (k:=k) hx (us:=us) (by rw[zdd,<-hk,zbr]) hk,v,[u],⟨y,0,none⟩,rfl,hb,Fp hy,u,[],⟨z,0,none⟩,rfl,hc,Fp hz,rfl⟩
section
attribute [local irreducible] FW FL FG FGn jK jO fI lU Qfn Gives
def En {α:Type} {enc:α->LV}:aJ w (.slice none 0 0) enc k []:=⟨none,0,rfl,⟨zbj _,dC⟩,gY.nil _ _ _⟩
def agm (w:Wd):gX w (agg [.slice none 0 0,.slice none 0 0,I 0]) mq:=⟨_,_,rfl,En,[],En,o7.nil⟩
section
variable {w w0:Wd} {S:NP} {rs:List HP}
def CQ {F:NP} (H:Mw.Sep w0 F rs w):Turn F (Qo (agg [.slice none 0 0,.slice none 0 0,I 0]) mq) w0 w:=(Sep.qE H agm).first.turn
def TA {b:Nat} {p:aU} {st:Int} {vw vc:Value} {r:List (L8×Value)} (H:Mw.Sep w0 S (blk b [vw,vc,I p.group,I st] 102::FB vw aM 3 p.wh::aY 49 2 dL vc r::Al r p.cols::rs) w):gX w (agg [vw,vc,I p.group]) p:=
 ⟨vw,vc,rfl,Sep.sees H At1,r,jG H At2,Sep.sees H At3⟩
theorem M5 (s:L8) (hl:s.length<=900000\/1048576<s.length) (Ye:s.length<=1000000000) (hT:iB w):aR Tryz.prog 25 [str s] w λv w'=>∃x,v=.tuple #[x,I (qC s).2.1,I (qC s).2.2]/\True/\Turn noB (Qo x (qC s).1) w w':=by
  have H:=Sep.aF w;obtain⟨res,ak⟩: ∃res,res=qC s:=⟨_,rfl⟩;rw[<-ak];refine aht Tryz.func25 ?_;refine Az (λb2 w2 H2 k1=>?_);refine Az (λb3 w4 H4 k3=>?_);refine Az (λb4 w6 H6 k5=>?_);refine Cz (λIe=>?_) (λIe=>?_)
  . unfold qC at ak
    rw[zac oM]at ak;refine Sr (Vb [.slice none 0 0,.slice none 0 0,I 0] ?_);refine Tz (λwa Ha=>?_);refine Uz (λwb Hb=>?_);refine Uz (λwc Hc=>?_);refine Qn (Rs (Ga (h:=?_)));exact⟨[_,I 0,I 5],M4 (Hc.obj At2) (Hc.obj At1) (Hc.obj At0),_,by rw[ak];rfl,trivial,by rw[ak];exact CQ Hc⟩
  have rG:s.length<=900000:=oM;have X9:s.length<=1048576:=oM;refine Az (λb5 wd Hd ka=>?_);refine Zb1 ?_;refine aL (agl s) rfl rfl (λv' we hv=>?_);obtain⟨bS,rfl,_,bZ,F1,hq,iA⟩:=hv;have He:=Hd.new bZ hq (λb hb=>(iA b hb).resolve_left id);refine Zb0 ?_;have atb:=agd s
  have HJ:Mw.Sep w noB (plJ b2 b3 b4 b5 []::[blk bS [str s] 9]) we:=by
    have h0:Mw.Sep w noB (FB (.slice none 0 0) aM 3 []::_) we:=Sep.qE He λ_=>En;have h1:=((Em (Sep.iW h0 49 2 dL)).aG.aN).gG;have h2:=((uj (p:=mq) h1).aN.aX).gG;exact Sep.uF (p:=λz:List (L8)×aU×Int=>jf [jB (([]:List (L8))=z.1.map lV/\uP z.1=some (z.2.1,z.2.2)),blk b2 [.slice none 0 0,.slice none 0 0,I 0] 26,blk b3 [I (([]:List (L8)).length:Nat)] 3,blk b4 [I 0] 29,Kh b5 z.2.1 z.2.2]) ([],mq,0) (Sep.bundle (l:=[jB (([]:List (L8))=([]:List (L8)).map lV/\uP []=some (mq,0)),_,_,_,_]) (Sep.lu ⟨rfl,rfl⟩ h2))
  refine Ro (gf:=71) (lb:=[ay bS]) str (rV s) (plJ b2 b3 b4 b5) (plL b2 b3 b4) _ HJ rfl rfl ?_ ?_ ?_ ?_
  . intro l D ro rb pre x Fr W jA HW
    have hxm:x∈rV s:=jA.subset (zct pre (zau.2 rfl));have hxl:=ai5 hxm;have Py:pre.length+1<=s.length+1:=by have:=jA.length_le;rw[zad,zae]at this;omega
    refine Za1 ?_;refine xK (qI ?_);refine⟨[],HW,λWB HB=>?_⟩;have HB2:Mw.Sep w noB (obj l rb::obj D (.deferred (some []))::plJ b2 b3 b4 b5 pre::Fr) WB:=HB;replace HB2:=HB2.aN;unfold plJ at HB2;obtain⟨⟨ls,p,st⟩,HB2⟩:=HB2.ex0;obtain⟨⟨Dm,iq⟩,HB3⟩:=(HB2.parts).tC;dsimp only at Dm iq HB3;obtain⟨rH,dJ,Dw⟩:=Wu ls iq;replace HB:=HB3;refine Zb1 ?_;refine eB (Tx x oM) (h:=?_);refine Zb8 ?_;refine dH (t:=25) rfl (λSa=>?_) (λSa=>?_)
    . have amL:Lib.hasSuffix x [10]=false:=by simpa using Sa
      have l9: ∀l,x≠lV l:=by
        rcases WG x with⟨_,_,_,h⟩ | ⟨h,_⟩
        . rw[amL]at h;cases h
        exact h
      have jN: ∃ls p st,pre=ls.map lV/\uP ls=some (p,st)/\((∃l,x=lV l/\jJ p st l=none)\/∀l,x≠lV l):=⟨ls,p,st,Dm,iq,.inr l9⟩;refine Dz (λSb wf Hf=>?_);refine Gb Sb 0 [.slice none 0 0,.slice none 0 0,I 0] ?_;refine Zb1 ?_;refine bN Sb 2 [(1,false)] Hf (h:=λwg Hg=>⟨sL,?_⟩);refine lX Sb 3 _ Hg (h:=λwi Hh=>⟨sT,?_⟩);refine lX Sb 4 _ Hh (h:=λwj Hi=>⟨sT,?_⟩);refine fK Sb kR ?_;refine iX (Rs (uy (zV ?_)));exact(Sep.bundle (l:=[jB (∃ls p st,pre=ls.map lV/\uP ls=some (p,st)/\((∃l,x=lV l/\jJ p st l=none)\/∀l,x≠lV l)),_,_,_]) (rs:=[_,_]) (Sep.lu jN ((Hi.aX).bH.firsts (l:=[_,_,_,_,_])))).FZ
    have amL:Lib.hasSuffix x [10]=true:=by simpa using Sa
    obtain⟨l0,hx0,ah0⟩: ∃l0,x=lV l0/\Lib.trimSuffix x [10]=l0:=by
      rcases WG x with⟨l0,h1,h2,_⟩ | ⟨_,_,h⟩
      . exact⟨l0,h1,h2⟩
      rw[amL]at h;cases h
    have Gx:l0.length<=s.length+1:=by have h1:=hxl;rw[hx0]at h1;unfold lV at h1;rw[zad,zae]at h1;omega
    have auv:ls.length=pre.length:=by rw[Dm,zaf]
    rw[ah0];refine Zb1 ?_;obtain⟨F0,eD,gV,aK⟩:=HB.focus At3;refine aL (ajb l0 eD dJ oM oM λw' hk=>hT.keep (HB.kept.trans hk gV)) rfl rfl (λv' wk hv=>?_);obtain⟨rfl,bZ,F1,hq,iA⟩:=hv;have Hj:=aK _ F1 _ bZ hq iA;refine On (Vv (Gives.not rfl) (Pf ?_));refine Qn (Cd rfl (λIf=>?_) (λIf=>?_))
    . have KG:jJ p st l0=none:=by
        have h1:=If;cases hq:jJ p st l0 with
        | none=>rfl
        | some y=>rw[hq]at h1;cases h1
      have jN: ∃ls p st,pre=ls.map lV/\uP ls=some (p,st)/\((∃l,x=lV l/\jJ p st l=none)\/∀l,x≠lV l):=⟨ls,p,st,Dm,iq,.inl ⟨l0,hx0,KG⟩⟩;refine Dz (λSc wl Hk=>?_);refine Gb Sc 0 [.slice none 0 0,.slice none 0 0,I 0] ?_;refine Zb1 ?_;refine bN Sc 2 [(1,false)] Hk (h:=λwm Hl=>⟨sL,?_⟩);refine lX Sc 3 _ Hl (h:=λwn Hm=>⟨sT,?_⟩);refine lX Sc 4 _ Hm (h:=λwo Hn=>⟨sT,?_⟩);refine fK Sc kR ?_;refine iX (Rs (uy (zV ?_)));exact(Sep.bundle (l:=[jB (∃ls p st,pre=ls.map lV/\uP ls=some (p,st)/\((∃l,x=lV l/\jJ p st l=none)\/∀l,x≠lV l)),_,_,_]) (rs:=[_,_]) (Sep.lu jN ((Hn.aX).bH.firsts (l:=[_,_,_,_,_])))).FZ
    obtain⟨⟨p',st'⟩,hl1⟩: ∃y,jJ p st l0=some y:=by
      have h1:=If;cases hq:jJ p st l0 with
      | none=>rw[hq]at h1;cases h1
      | some y=>exact⟨y,rfl⟩
    rw[hl1]at Hj;have aqY:pre++[x]=(ls++[l0]).map lV:=by rw[zai,Dm,hx0];rfl
    have aoE:uP (ls++[l0])=some (p',st'):=by rw[MR,iq];exact hl1
    refine Zb1 ?_;refine Vv (Gives.RQ (c:=(((pre++[x]).length:Nat):Int)) rfl rfl (by rw[zad,zae];omega) (by rw[zad,zae];omega)) ?_;refine Uz (λwp Ho=>?_);refine xK (vU (DT ?_));exact(Sep.uF (p:=λz:List (L8)×aU×Int=>jf [jB (pre++[x]=z.1.map lV/\uP z.1=some (z.2.1,z.2.2)),blk b2 [.slice none 0 0,.slice none 0 0,I 0] 26,blk b3 [I ((pre++[x]).length:Nat)] 3,blk b4 [I 0] 29,Kh b5 z.2.1 z.2.2]) (ls++[l0],p',st') (Sep.bundle (l:=[jB (pre++[x]=(ls++[l0]).map lV/\uP (ls++[l0])=some (p',st')),_,_,_,_]) (Sep.lu ⟨aqY,aoE⟩ Ho))).FZ
  . intro l D ro rj W HW hy
    exact ZA X9 HW hy
  rotate_left 1
  . intro D W pre x jA HD
    obtain⟨⟨ls,p,st,Dm,iq,jN⟩,HD2⟩:=((HD.aG).parts).tC;subst Dm;rw[adA X9 jA iq jN]at ak;exact uy (ER (yV HD2 At3 (λw1 H1=>⟨[_,_,I 4],M4 (H1.obj At0) (H1.obj At1) (H1.obj At2),_,by rw[ak];rfl,trivial,by rw[ak];exact CQ H1⟩)))
  intro D wq Hp;have Hp:=Hp.aG;unfold plJ at Hp;obtain⟨⟨ls,p,st⟩,Hp⟩:=Hp.ex0;obtain⟨⟨Dm,iq⟩,Hp⟩:=(Hp.parts).tC;dsimp only at Dm iq Hp;obtain⟨rH,dJ,Dw⟩:=Wu ls iq;obtain⟨amM,hls⟩:=ai4 Dm;have bT:=Zp X9 amM (by rw[hls];exact iq);rw[<-ak,hls]at bT;have hlen:(rV s).length=ls.length:=by rw[Dm,zaf]
  rw[hlen]at Hp;obtain⟨vw,vc,r,Hp⟩:=M0 (Hp.aX);obtain⟨Aw,cw,rfl,_⟩:=(Sep.sees Hp At1:aJ _ vw aM 3 p.wh);obtain⟨Ac,cc,rfl,OM,hRc⟩:=Sep.bJ Hp At2;refine Cz (λIg=>?_) (λIg=>?_)
  . rw[zac Ig]at bT
    refine Dz (λSd wr Hq=>?_);refine Gb Sd 0 [.slice none 0 0,.slice none 0 0,I 0] ?_;refine Zb1 ?_;refine bN Sd 2 [(1,false)] Hq (h:=λws Hr=>⟨sL,?_⟩);refine lX Sd 3 _ Hr (h:=λwt Hs=>⟨sT,?_⟩);refine lX Sd 4 _ Hs (h:=λwu Ht=>⟨sT,?_⟩);refine fK Sd kR ?_;refine iX (Rs (yV Ht At7 (hR:=λwv Hu=>?_)));exact⟨[_,_,I 4],M4 (Hu.obj At4) (Hu.obj At5) (Hu.obj At6),_,by rw[bT];rfl,trivial,by rw[bT];exact CQ Hu⟩
  rw[zab Ig]at bT;refine Zb1 ?_;refine FK Hp (us:=[.slice Aw p.wh.length cw,.slice Ac r.length cc,I p.group]) (hu:=rfl) (hk:=rfl) (h:=?_);have Py:=TA Hp;refine Kz (adw Py Dw.1 Dw.2 oM (hT.keep Hp.kept)) (λww Hv kb=>?_);refine Cz (λIh=>?_) (λIh=>?_)
  . have xZ:Dr p=false:=by
      cases hq:Dr p with
      | false=>rfl
      | true=>have h1:=Ih;unfold J9 at h1;rw[hq,zab dC]at h1;exact zar rfl h1
    have ht2:(J9 p).2=2:=by unfold J9;rw[zac xZ]
    rw[zac xZ]at bT;refine Sr (Vb [.slice none 0 0,.slice none 0 0,I 0] ?_);refine Mv ?_;refine Tz (λwx Hw=>?_);refine Uz (λwy Hx=>?_);refine Uz (λwz Hy=>?_);refine Qn (Rs (yV Hy At7 (hR:=λwD Hz=>?_)));exact⟨[_,I 0,_],M4 (Hz.obj At4) (Hz.obj At5) (Hz.obj At6),_,by rw[bT,ht2];rfl,trivial,by rw[bT];exact CQ Hz⟩
  have xZ:Dr p=true:=by
    cases hq:Dr p with
    | true=>rfl
    | false=>have h1:=Ih;unfold J9 at h1;rw[zac hq]at h1;exact zar dC h1
  rw[zab (by rw[xZ];decide)]at bT;refine Zb1 ?_;refine FK Hv (us:=[.slice Aw p.wh.length cw,.slice Ac r.length cc,I p.group]) (hu:=rfl) (hk:=rfl) (h:=?_);refine Tz (λwE HA=>?_);refine Uz (λwF HC=>?_);refine Uz (λwG HE=>?_);refine Qn (LY (yV HE At7 (hR:=λwH HF=>?_)));exact⟨[_,I 0,I 0],M4 (HF.obj At4) (HF.obj At5) (HF.obj At6),_,by rw[bT];rfl,trivial,by rw[bT];exact(Wv (g:=p.group) HF.bH).first.turn⟩
end

section
variable {w:Wd}
end
def hi0 (k a b:Int):Int:=if k=8 then a/4294967296-b/4294967296 else a/4294967296+b/4294967296
section
variable {w:Wd}
def agn {p:aU} (hp:gX w v p) (hn:p.cols.length<=100) (Au:p.wh.length<=1000) (OP: ∀o∈p.cols,o.steps.length<=1000):aR Tryz.prog 35 [v] w λv' w'=>∃x,v'=x/\True/\Turn noB (Qo x p) w w':=by
 obtain⟨vw,vc,rfl,hw,r,hr,eF⟩:=hp;obtain⟨A,m,rfl,⟨hm,om⟩,hA⟩:=hr;obtain⟨W,mw,rfl,_,hW⟩:=id hw;have zi:=eF.len;have H:=Sep.aF w;refine oV Tryz.func35 ?_;refine Sr (bB H (cs:=[.slice W p.wh.length mw,.slice A r.length m,I p.group]) rfl (h:=λb1 _ _ _=>?_));refine Az (λb2 _ _ _=>?_);refine Zb2 ?_;refine Vb [.slice none 0 0,.slice none 0 0,I p.group] ?_;refine Az (λb3 _ _ _=>?_);refine Tz (λ_ k=>?_);refine Nx ?_;have S:=Sep.iW k 97 3 aM;refine Vf ?_;refine Zb3 ?_;refine mU S At0 (hW.keep S.kept) (by unfold maxLen;simp;omega) (by simp;omega) (cells_one (λ_=>rfl) _) (h:=?_);intro v0 S S;rw[zbu]at S;obtain⟨X,cx,rfl,_,_⟩:=Sep.bJ S At0;refine Vf ?_;refine Uz (λ_ S=>?_);refine Zb1 ?_;have k:=Em (Sep.iW (dU S At0) 49 2 dL);refine aI (λx:Nat×(OA×Nat)×List (L8×Value)=>[(1,ay b1),(2,ay b2),(3,ay b3),(4,I x.1)]) (λx w'=>(x.1<=r.length/\x.2.2.length=x.1)/\Sep w noB [Al x.2.2 (p.cols.take x.1),aY 49 2 dL (.slice x.2.1.1 x.2.2.length x.2.1.2) x.2.2,FB (.slice X p.wh.length cx) aM 3 p.wh,blk b3 [.slice X p.wh.length cx,.slice x.2.1.1 x.2.2.length x.2.1.2,I p.group] 26,blk b2 [.slice none 0 0,.slice none 0 0,I 0] 26,blk b1 [.slice W p.wh.length mw,.slice A r.length m,I p.group] 26] w') (λx _=>r.length-x.1) (0,(none,0),[]) tR ⟨⟨zak _,rfl⟩,k⟩ (λx τ _ hI=>?_);obtain⟨i,⟨C,cc⟩,q⟩:=x;obtain⟨⟨hi,YC⟩,k⟩:=hI;dsimp only at hi YC k;refine Lp ?_;refine Cz (λS=>?_) (λS=>?_)
 .have aS:i<p.cols.length:=oM
  obtain⟨vx,hx,Ci⟩:=eF.at aS;have rH:p.cols[i]? =some p.cols[i]:=zaa aS;obtain⟨o,ho⟩: ∃o,o=p.cols[i]:=⟨_,rfl⟩;rw[<-ho]at hx Ci rH;obtain⟨Ax,mx,rfl,_,hX⟩:=id Ci;have hol:=OP o (zag rH);have xY:p.cols.take (i+1)=p.cols.take i++[o]:=by rw[zay,rH];rfl
  refine Zb0 ?_;have S:=Sep.iW k 97 3 aM;refine Am ?_;refine Dz (λS _ a=>?_);refine aqk ?_;refine yZ S 15 [(7,false),(6,true),(5,true),(4,true),(3,false),(2,true),(1,false),(0,true)] a At0 (hX.keep a.kept) (by unfold maxLen;simp;omega) (by simp;omega) (cells_one (λ_=>rfl) _) (h:=λv2 _ a=>?_);rw[zbu]at a;obtain⟨Y,cy,rfl,_,_⟩:=Sep.bJ a At0;refine⟨(bK rfl kR (Gives.dz (i:=i) (f:=0) (c:=(o.name,.slice Ax o.steps.length mx)) rfl a hA hx rfl) rfl (av (av (av (iI a (h:=av (iI a (h:=av (eu))))))))),?_⟩;refine Gb S 16 (dL (o.name,.slice Y o.steps.length cy)) ?_;refine Gz S 17 [(1,false),(0,true)] a ([(o.name,Value.slice Y o.steps.length cy)].flatMap dL) (h:=λbs _ a=>⟨sL,?_⟩);refine gF S 18 _ a (news:=[(o.name,Value.slice Y o.steps.length cy)]) At2 (by unfold maxLen;simp;omega) (by simp;omega) (WE rfl) (h:=λv3 _ a=>?_);obtain⟨C2,c2,rfl,_,_⟩:=Sep.bJ a At2;refine⟨sT,?_⟩;refine Zb1 ?_;refine lX S 20 _ a (h:=λ_ a=>⟨sT,?_⟩);refine Zb3 ?_;exact aj (i+1,(C2,c2),q++[(o.name,Value.slice Y o.steps.length cy)]) tR ⟨⟨dO,by dsimp only;rw[zad,YC];rfl⟩,by
  dsimp only;rw[xY];exact Bp a⟩ dO
 have jF:i=r.length:=oM;rw[jF,zaj oM]at k;refine Tz (λ_ a=>?_);refine Zb0 ?_;exact⟨_,fB a,_,rfl,trivial,(Wv (s:=p.wh) (g:=p.group) (cols:=p.cols) a.aG.aN).first.turn⟩
end
end
section
variable {P:Program} {r:Option Nat} {n:Nat} {ops:AO} {Q:Post} {rest:LO} {σ:St} {w w0:Wd} {S:NP} {rs:List HP} {put:HP->List HP} {ty:Td} {pos:String} {after:Array Edge} {lv:List Bool} {pd:LNB} {guard:Option (Nat×Bool)}
def Gives.akG {ρ:Od->Value} {t e:Td} [hs:cO P t e] {size bytes:Nat} [hc:Cells P e size bytes] {z:Value} [hz:Zero P e z] {cs:LV} (hx:ρ x=.int .i64 k) (hy:ρ y=.int .i64 k) (hcs:madeCells z.cells (k*size)=cs.toArray) (hb:bytes*k<=281474976710656) (hk:k<=maxLen):
    Gives P ρ (.makeSlice t x y) ty w (.slice (some ⟨w.heap.size,0,none⟩) k k) (w.alloc (.cells cs.toArray e)):=λ_ _ _ _=>by
  obtain⟨i,hi,qx⟩:=zbc.1 hc.size;simp only[Prod.mk.injEq]at qx
  have vL:i.zero=some z:=by
    have:=hz.run w;simp[zeroValue,typeInfo,hi]at this;cases hq:i.zero with
    | none=>simp[hq]at this
    | some u=>simp[hq]at this;rw[this]
  have iq:=run_make (P:=P) w t e i z hs.und hi vL .i64 .i64 (k:Int) (k:Int) oM oM (by rw[qx.2,<-Int.natCast_mul];generalize bytes*k=q at hb ⊢;omega) (by unfold maxLen at hk;omega);rw[zdq,qx.1,hcs]at iq;simp only[execOp,hx,hy,zbi,iq,zam,zbl]
def ZB {α:Type} {enc:α->LV} {e c:Nat} {l:List α} {A:OA} {T:Td} [h1:Agg P T k] [hk:je enc k] {i:Nat} (a':α) (hm:m=l.length) (H:Sep w0 S rs w) (hat:At rs (aY e k enc (.slice A m c) l) put) (hi:i<l.length) (hv:(enc a').all Value.oneCell'=true)
    (h: ∀w',Sep w0 S (put (aY e k enc (.slice A m c) (l.set i a'))) w'->FL P r n ops Q rest σ w') (hx:evF σ x=adr A (i*k):=by exact rfl) (hy:evF σ y=.agg (enc a').toArray:=by exact rfl):
    FL P r n ops Q (⟨none,.store T x y,ty,pos,after,none⟩::rest) σ w:=by
  obtain⟨w',ha,hs⟩:=FC (P:=P) (ty:=ty) (T:=T) a' hm H hat hi hx hy hv;exact Eb ha rfl (h w' hs)
end
section
variable {w w0:Wd} {S:NP} {rs:List HP} {put:HP->List HP}
def qd {α:Type} (w:Wd) (enc:α->LV) (k:Nat):aJ w (.slice none 0 0) enc k []:=⟨none,0,rfl,⟨zbj _,dC⟩,gY.nil _ _ _⟩
def M6 {α:Type} {enc:α->LV} {b e:Nat} [hk:je enc k] {l:List α} (H:Mw.Sep w0 S rs w) (hat:At rs (blk b (l.flatMap enc) e) put) (hm:m=l.length) (hl:l.length<=100000):aJ w (.slice (some ⟨b,0,none⟩) m m) enc k l:=by
 subst hm;exact⟨_,_,rfl,⟨zbj _,oM⟩,Sep.lK H hat (jq hk.len l)⟩
end
/-! The words of the known expressions. -/
section
variable {P:Program} {ρ:Od->Value} {ty:Td} {w w0:Wd} {x y:Od} {α:Type} {enc:α->LV} {k:Nat} {l:List α} {A:OA}
end
def adB (x:Int×Int):LV:=[I x.1,I x.2]
variable {a b:List aC}
instance:je adB 2:=⟨λ_=>rfl⟩
section
attribute [local irreducible] FW FL FG FGn jK jO fI lU Qfn Gives
def U (n:Int):Value:=.int .u64 n
def bW (v:Int):LV:=[U (wA v),U (wB v),U (wC v)]
instance:je bW 3:=⟨λ_=>rfl⟩
def FD (x:Int×Int×Int):LV:=[U x.1,U x.2.1,U x.2.2]
def ZC {P:Program} {d:Nat} {t:Td} (a b:Int) (h:P.underlying t=some (.int .u64)):(Op.equalIn (d+1) t (U a) (U b)).run P w=.ok (decide (a=b)) w:=by
 rw[show U a=.int .u64 a from rfl,show U b=.int .u64 b from rfl,run_equalIn_int w d t .u64 .u64 a b h];rfl
def anS {d:Nat} (a b:Int×Int×Int) (w:Wd):(Op.equalIn (d+2) 371 (.agg (FD a).toArray) (.agg (FD b).toArray)).run prog w=.ok (decide (a=b)) w:=by
 rw[run_equalIn_agg w (d+1) _ _ _ kR kR];simp only[Program.fieldsOf,underlying371];rw[JI rfl aai rfl rfl (ZC a.1 b.1 kR),JI rfl aai rfl rfl (ZC a.2.1 b.2.1 kR),JI rfl aai rfl rfl (ZC a.2.2 b.2.2 kR),ahJ];have e:(a=b)=(a.1=b.1/\a.2.1=b.2.1/\a.2.2=b.2.2):=propext ⟨λh=>by subst h;exact⟨rfl,rfl,rfl⟩,λh=>Prod.ext h.1 (Prod.ext h.2.1 h.2.2)⟩;simp only[e]
 by_cases h1:a.1=b.1<;>by_cases h2:a.2.1=b.2.1<;>by_cases h3:a.2.2=b.2.2<;>simp[h1,h2,h3]
instance:EqData prog 371 (Int×Int×Int) FD:=⟨λa b w=>anS (d:=9998) a b w,kR⟩
def Dt:List Int->Int
 | []=>0
 | x::l=>x+Dt l
def WH (a b:List Int):Dt (a++b)=Dt a+Dt b:=by
 induction a with
 | nil=>simp[Dt]
 | cons x a ih=>rw[zcd,Dt,Dt,ih];omega
section
variable {w:Wd}
def FE (n:Int) (hn:fits n):aR prog 333 [I n] w λv w'=>v=U (if n<0 then 18446744073709551615 else 0)/\w=w':=by
 refine cK func333 ?_;refine Zb2 ?_;refine Vv (Gives.shr rfl rfl dC) (Vv (Gives.conv rfl) ?_);refine Zb1 ?_;exact⟨zaw U (by
 show IntKind.u64.wrap (n.fdiv (2^63))=_
 rw[IntKind.wrap_u64];have h1:=hn.1;have h2:=hn.2;rw[show(2:Int)^63=9223372036854775808 from dC,zfv _ dC]
 split<;>omega),rfl⟩
def TB (n:Int) (hn:fits n):Rk prog 325 [I n] w (agg (bW n)):=by
 have H:=Sep.aF w;obtain⟨h1,h2⟩:=aiN hn.1 (Int.lt_add_one_of_le hn.2);refine oV func325 ?_;refine Az (λb1 _ _ _=>?_);refine Zb1 ?_;refine Vv (Gives.conv rfl) ?_;rw[IntKind.wrap_u64];refine Mv ?_;refine eB (FE n hn) (h:=?_);refine Mv ?_;refine eB (FE n hn) (h:=?_);refine Vb [U (wA n),U (if n<0 then 18446744073709551615 else 0),U (if n<0 then 18446744073709551615 else 0)] ?_;refine Tz (λ_ k=>?_);refine Zb0 ?_;exact⟨_,fB k,by unfold bW;rw[h1,h2];rfl,k.kept⟩
def Jc (a b c:Int) (ha:0<=a) (hb:0<=b) (h0:0<=c) (hc:c<=1):(callFunc 339 [U a,U b,U c].toArray).run prog w=.ok (.value (.tuple #[U ((a+b+c)%18446744073709551616),U ((a+b+c)/18446744073709551616)])) w:=by
 rw[run_callFunc_extern (e:=add64Entry) func339 kR kR kR kR];show((add64Entry #[.int .u64 a,.int .u64 b,.int .u64 c]).run prog w).andThen _=_
 rw[run_add64 a b c ha hb h0 hc w];rfl
def ajc {L:List Int} {vl:Value} (hl:aJ w vl bW 3 L):Rk prog 332 [vl] w (agg (bW (Dt L))):=by
 obtain⟨A,m,rfl,⟨hm,om⟩,hA⟩:=hl;have H:=Sep.aF w;refine oV func332 ?_;refine Az (λb2 _ k _=>?_);refine Zb3 ?_;refine aI (λi:Nat=>[(2,ay b2),(6,.slice A L.length m),(7,I L.length),(8,I i)]) (λi w'=>i<=L.length/\Sep w noB [blk b2 (bW (Dt (L.take i))) 371] w') (λi _=>L.length-i) 0 tR ⟨zak _,k⟩ (λi τ _ hI=>?_);obtain⟨hi,k⟩:=hI;refine Lp ?_;refine Cz (λS=>?_) (λS=>?_)
 .have aS:i<L.length:=oM
  obtain⟨x,hx⟩:=get_some aS;have hxm:=hx;have xY:Dt (L.take (i+1))=Dt (L.take i)+x:=by rw[zay,hx,WH];show _+(x+0)=_;omega
  obtain⟨s,hs⟩: ∃s,s=Dt (L.take i):=⟨_,rfl⟩;rw[<-hs]at xY k;obtain⟨⟨UH,UW⟩,⟨EL,hb2⟩,S,a⟩:=mo s;obtain⟨⟨hd1,Gq⟩,⟨KH,U0⟩,hf1,hf2⟩:=mo x;obtain⟨hsa,qx,hsc⟩:=afl s x;refine Az (λb4 _ _ _=>?_);refine Tz (λ_ _=>?_);refine Zb5 ?_;refine Vv (Gives.ext (vals:=[U (wA s),U (wA x),U 0]) (Jc _ _ _ UH hd1 dC dC)) (Uz (λ_ _=>?_));refine Zb6 ?_;refine Vv (Gives.ext (vals:=[U (wB s),U (wB x),U ((wA s+wA x+0)/18446744073709551616)]) (Jc _ _ _ EL KH oM oM)) (Uz (λ_ _=>?_));refine Zb6 ?_;refine Vv (Gives.ext (vals:=[U (wC s),U (wC x),U ((wB s+wB x+(wA s+wA x+0)/18446744073709551616)/18446744073709551616)]) (Jc _ _ _ S hf1 oM oM)) (Uz (λ_ S=>?_));refine Zb0 ?_;refine Vc ((i+1:Nat):Int) ?_;refine Zb1 ?_
  have e:[U ((wA s+wA x+0)%18446744073709551616),U ((wB s+wB x+(wA s+wA x+0)/18446744073709551616)%18446744073709551616),U ((wC s+wC x+(wB s+wB x+(wA s+wA x+0)/18446744073709551616)/18446744073709551616)%18446744073709551616)]=bW (Dt (L.take (i+1))):=by
   rw[xY];unfold bW;rw[hsa,qx,hsc,zgf]
  exact aj (i+1) tR ⟨oM,by rw[<-e];exact(S.aG).first⟩ oM
 have qU:Dt (L.take i)=Dt L:=by rw[zaj oM]
 rw[qU]at k;refine Tz (λ_ S=>?_);refine Zb0 ?_;exact⟨_,fB S,rfl,S.kept⟩
def TD (x y:Int):Rk prog 324 [agg (bW x),agg (bW y)] w (agg (bW (x+y))):=by
 have H:=Sep.aF w;refine sQ func324 ?_;refine Sr (bB H (cs:=bW x) rfl (h:=λb2 _ k _=>?_));refine bB k (cs:=bW y) rfl (h:=λb3 _ _ _=>?_);refine Az (λb5 _ k _=>?_);refine Zb2 ?_;refine Bs k ([x,y].flatMap bW) (λbs _ k _=>?_);have tq:=M6 (enc:=bW) (l:=[x,y]) k At0 rfl (by show 2<=100000;decide);refine Kz (ajc tq) (λ_ _ _=>?_);rw[show Dt [x,y]=x+y from by show x+(y+0)=_;omega];refine Tz (λ_ k=>?_);refine Zb0 ?_;exact⟨_,fB k,rfl,k.kept⟩
def abq {v:Int} (h:aW v=true):xM v=v:=by
 have:=zbd h;unfold xM wA
 split<;>omega
def WI (v:Int):IntKind.i64.wrap (wA v)=xM v:=by
 rw[IntKind.wrap_i64];unfold xM wA
 split<;>omega
def agp (v:Int):fits (xM v):=by
 unfold fits xM wA
 split<;>omega
def TF (v:Int) (h1: -3138550867693340381917894711603833208051177722232017256448<=v) (h2:v<3138550867693340381917894711603833208051177722232017256448):
    Rk prog 326 [agg (bW v)] w (.tuple #[I (if aW v=true then v else 0),I (if aW v=true then 0 else 50)]):=by
  have H:=Sep.aF w;have hw:=afm h1 h2;refine cK func326 ?_;refine Sr (bB H (cs:=bW v) rfl (h:=λb1 _ _ _=>?_));refine Zb4 ?_;refine Vv (Gives.yU (c:=xM v) rfl (WI v)) (Dz (λk _ S=>?_));refine Zb1 ?_;refine jM k 2 S (h:=?_);refine dB k 1 [(2,false)] S (TB (xM v) (agp v)) (h:=λ_ S _=>⟨sU,?_⟩);refine Gp k 3 rfl rfl (λ_=>Gives.alY (enc:=FD) (wA (xM v),wB (xM v),wC (xM v)) (wA v,wB v,wC v) rfl rfl) (fK k kR ?_);refine Cz (λk=>?_) (λk=>?_)
  . have hf: ¬aW v=true:=λh=>by
      obtain⟨e1,e2,e3⟩:=hw.2 h;exact k (by rw[e1,e2,e3])
    refine Zb2 ?_;exact⟨by rw[zab hf,zab hf];rfl,S.kept⟩
  have hf:aW v=true:=by
    have h:=Decidable.of_not_not k;injection h with h1 h2
    injection h2 with h2 h3
    exact hw.1 ⟨h1,h2,h3⟩
  refine Zb3 ?_;exact⟨by rw[zac hf,zac hf];exact zaw (λz=>Value.tuple #[I z,I 0]) (abq hf),S.kept⟩
def agq (a b:Int) (ha:0<=a) (UW:a<18446744073709551616) (hb:0<=b) (hb2:b<18446744073709551616):aR prog 378 [U a,U b] w λv w'=>v=.tuple #[U (a*b/18446744073709551616),U (a*b%18446744073709551616)]/\w=w':=by
 obtain⟨x,rfl⟩:=zfi ha;obtain⟨y,rfl⟩:=zfi hb;have:=Tryz.bits_Mul64 x y oM oM w;refine j6 (Calls.mono this λe w' he=>?_);obtain⟨rfl,rfl⟩:=he;exact⟨by congr 2<;>simp[U],rfl⟩
def and_ones (a:Int) (h0:0<=a) (h1:a<18446744073709551616) (p:Prop) [Decidable p]:bits .and .u64 a (if p then 18446744073709551615 else 0)=if p then a else 0:=by
 obtain⟨x,rfl⟩:=zfi h0
 split
 .have h:=bits_and_u64_nat x 18446744073709551615 oM oM
  have e:x&&& 18446744073709551615=x%18446744073709551616:=Nat.and_two_pow_sub_one_eq_mod x 64;rw[e,Nat.mod_eq_of_lt oM]at h;exact h
 have h:=bits_and_u64_nat x 0 oM oM;rw[Nat.and_zero]at h;exact h
def ajd (a b:Int) (ha:fits a) (hb:fits b):Rk prog 374 [I a,I b] w (agg (bW (a*b))):=by
 have H:=Sep.aF w;obtain⟨m1,m2,m3⟩:=afn ha hb;obtain⟨⟨UH,UW⟩,_,_⟩:=mo a;obtain⟨⟨EL,hb2⟩,_,_⟩:=mo b
 have hp:0<=wA a*wA b/18446744073709551616/\wA a*wA b/18446744073709551616<18446744073709551616:=by
  have h1:=Int.mul_nonneg UH EL;have h2:wA a*wA b<=18446744073709551615*18446744073709551615:=Int.mul_le_mul oM oM EL dC;omega
 obtain⟨⟨k,k⟩,⟨hd1,Gq⟩,_⟩:=mo (a*b);refine sQ func374 ?_;refine Az (λb1 _ _ _=>?_);refine Zb1 ?_;refine Vv (Gives.yU (c:=wA a) rfl (by rw[IntKind.wrap_u64];rfl)) ?_;refine Mv ?_;refine Vv (Gives.yU (c:=wA b) rfl (by rw[IntKind.wrap_u64];rfl)) ?_;refine eB (agq (wA a) (wA b) UH UW EL hb2) (h:=?_);refine Zb7 ?_;refine Vv (Gives.yU (c:=wA a) rfl (by rw[IntKind.wrap_u64];rfl)) ?_;refine Mv ?_;refine eB (FE b hb) (h:=?_);refine Vv (Gives.al4 rfl rfl (and_ones (wA a) UH UW (b<0))) (Mv ?_);refine Vv (Gives.yU (c:=wA b) rfl (by rw[IntKind.wrap_u64];rfl)) ?_;refine Mv ?_;refine eB (FE a ha) (h:=?_);refine Vv (Gives.al4 rfl rfl (and_ones (wA b) EL hb2 (a<0))) (Vv (Gives.ajP rfl rfl (IntKind.wrap_u64 _)) ?_);refine Vv (Gives.al3 (c:=wB (a*b)) rfl rfl (by rw[IntKind.wrap_u64,m2])) ?_;refine Zb4 ?_;refine Vv (Gives.yU rfl rfl) (eB (FE (IntKind.i64.wrap (wB (a*b))) (by unfold fits;rw[IntKind.wrap_i64];omega)) (h:=?_));refine Vb [U (wA a*wA b%18446744073709551616),U (wB (a*b)),U _] ?_;refine Tz (λ_ k=>?_);refine Zb0 ?_;exact⟨_,fB k,by
 show agg [U (wA a*wA b%18446744073709551616),U (wB (a*b)),U (if IntKind.i64.wrap (wB (a*b))<0 then 18446744073709551615 else 0)]=agg (bW (a*b))
 unfold bW;rw[m1,m3,IntKind.wrap_i64]
 congr 5
 split<;>split<;>first | rfl | omega,k.kept⟩
end
def Qy (h:a.take i=b.take i):qQ nk a b=qQ nk (a.drop i) (b.drop i):=by
 induction i generalizing a b with
 | zero=>rfl
 | succ i ih=>
  cases a with
  | nil=>cases b with
   | nil=>rfl
   | cons y s=>simp at h
  | cons x r=>cases b with
   | nil=>simp at h
   | cons y s=>
    simp only[zcy,List.cons.injEq]at h;obtain⟨rfl,h⟩:=h;rw[zeq,zeq,<-ih h,qQ,zab (by rw[EW.self];decide)]
def abr {x y:aC} (h:a.take i=b.take i) (hx:a[i]? =some x) (hy:b[i]? =some y) (iN:nk x y≠0):jC a b=nk x y:=by
 unfold jC;rw[Qy h]
 have ex:a.drop i=x::a.drop (i+1):=by
  obtain⟨hi,e⟩:=zbb.1 hx;rw[<-e];exact zbn hi
 have ey:b.drop i=y::b.drop (i+1):=by
  obtain⟨hi,e⟩:=zbb.1 hy;rw[<-e];exact zbn hi
 rw[ex,ey,qQ,zac iN]
def uQ (h:a.take i=b.take i) (hi:i=min a.length b.length):jC a b=vP (a.length:Int) (b.length:Int):=by
 unfold jC;rw[Qy h]
 rcases Nat.lt_trichotomy a.length b.length with hl | hl | hl
 .have e1:a.drop i=[]:=zbv oM
  obtain⟨y,s,e2⟩: ∃y s,b.drop i=y::s:=zfc (by rw[zbo];omega);rw[e1,e2,qQ];unfold vP;rw[zac oM]
 .have e1:a.drop i=[]:=zbv oM
  have e2:b.drop i=[]:=zbv oM;rw[e1,e2,qQ];unfold vP;rw[zab oM,zab oM]
 have e1:b.drop i=[]:=zbv oM;obtain⟨y,s,e2⟩: ∃y s,a.drop i=y::s:=zfc (by rw[zbo];omega);rw[e1,e2,qQ];unfold vP;rw[zab oM,zac oM]
section
variable {w:Wd}
def Qz (n:Int):aR prog 349 [I n] w λv w'=>v=.bool false/\w=w':=by
 have H:=Sep.aF w;refine cK func349 ?_;refine Zb5 ?_;exact⟨zaw Value.bool sM,rfl⟩
def adC (a b:Int):aR prog 338 [I a,I b] w λv w'=>v=I (vP a b)/\w=w':=by
 have H:=Sep.aF w;refine bQ func338 ?_;refine Zb2 ?_;refine eB (Qz a) (h:=?_);refine Zb2 ?_;refine eB (Qz b) (h:=?_);refine Za2 ?_;refine Qn (Cd rfl (λk=>?_) (λk=>?_))
 .cases k
 refine Za1 ?_;refine Qn (Cd rfl (λk=>?_) (λk=>?_))
 .cases k
 refine Cz (λk=>?_) (λk=>?_)
 .have h1:=k
  refine Zb1 ?_;exact⟨by unfold vP;rw[zac h1];rfl,rfl⟩
 have h1:=k;refine Cz (λk=>?_) (λk=>?_)
 .have h2:=k
  refine Zb1 ?_;exact⟨by unfold vP;rw[zab h1,zac oM];rfl,rfl⟩
 have h2:=k;refine Zb1 ?_;exact⟨by unfold vP;rw[zab h1,zab oM];rfl,rfl⟩
def adD {va vb:Value} (ha:aJ w va ah 3 a) (hb:aJ w vb ah 3 b):Rk prog 331 [va,vb] w (I (jC a b)):=by
 obtain⟨A,m,rfl,⟨hm,om⟩,hA⟩:=ha;obtain⟨B,n,rfl,⟨hn,hn'⟩,hB⟩:=hb;have H:=Sep.aF w;refine bQ func331 ?_;refine Zb5 ?_;refine Vv (Gives.afW (m:=((min a.length b.length:Nat):Int)) rfl rfl oM) (Zb1 ?_);refine aI (λi:Nat=>[(0,.slice A a.length m),(1,.slice B b.length n),(11,I (min a.length b.length:Nat)),(12,I i)]) (λi w'=>(i<=min a.length b.length/\a.take i=b.take i)/\Sep w noB [] w') (λi _=>min a.length b.length-i) 0 tR ⟨⟨zak _,sM⟩,H⟩ (λi τ _ hI=>?_);obtain⟨⟨hi,dJ⟩,k⟩:=hI;refine Lp ?_;refine Cz (λS=>?_) (λS=>?_)
 .have aS:i<a.length:=oM
  have KW:i<b.length:=oM;obtain⟨x,hx⟩:=get_some aS;obtain⟨y,hy⟩:=get_some KW;refine Dz (λS _ c=>?_);refine Zb8 ?_;refine dB S 8 _ c (rR x y) (h:=λ_ c _=>⟨sT,?_⟩);refine Cz (λS=>?_) (λS=>?_)
  .have hxy:=S
   refine Zb2 ?_;exact⟨by rw[abr dJ hx hy hxy];rfl,c.kept⟩
  have hxy:x=y:=(EW.eq0 x y).1 (by have:=S;omega);have UK:a.take (i+1)=b.take (i+1):=by rw[zay,zay,dJ,hx,hy,hxy]
  refine Zb0 ?_;refine Vc ((i+1:Nat):Int) ?_;refine Zb1 ?_;exact aj (i+1) tR ⟨⟨oM,UK⟩,c⟩ oM
 have jF:i=min a.length b.length:=oM;refine Zb4 ?_;refine eB (adC _ _) (h:=?_);refine Zb1 ?_;exact⟨by rw[uQ dJ jF];rfl,k.kept⟩
def Ki {va vb:Value} (ha:aJ w va ah 3 a) (hb:aJ w vb ah 3 b):Rk prog 67 [va,vb] w (I (jC a b)):=by
 obtain⟨A,m,rfl,⟨hm,om⟩,hA⟩:=ha;obtain⟨B,n,rfl,⟨hn,hn'⟩,hB⟩:=hb;have H:=Sep.aF w;refine bQ func67 ?_;refine Zb2 ?_;refine aI (λi:Nat=>[(0,.slice A a.length m),(1,.slice B b.length n),(5,I i)]) (λi w'=>(i<=min a.length b.length/\a.take i=b.take i)/\Sep w noB [] w') (λi _=>min a.length b.length-i) 0 tR ⟨⟨zak _,sM⟩,H⟩ (λi τ _ hI=>?_);obtain⟨⟨hi,dJ⟩,k⟩:=hI;refine Lp ?_;refine Sz (λS=>?_) (λS=>?_)
 .have auz:=S
  refine Cz (λc=>?_) (λc=>?_)
  .have aS:i<a.length:=oM
   have KW:i<b.length:=oM;obtain⟨x,hx⟩:=get_some aS;obtain⟨y,hy⟩:=get_some KW;refine Dz (λd _ e=>?_);refine Zb8 ?_;refine dB d 8 _ e (KC x y) (h:=λ_ e _=>⟨sT,?_⟩);refine Cz (λd=>?_) (λd=>?_)
   .have hxy:=d
    refine Zb2 ?_;exact⟨by rw[abr dJ hx hy hxy];rfl,e.kept⟩
   have hxy:x=y:=(EW.eq0 x y).1 (by have:=d;omega);have UK:a.take (i+1)=b.take (i+1):=by rw[zay,zay,dJ,hx,hy,hxy]
   refine Zb1 ?_;refine Vc ((i+1:Nat):Int) ?_;refine Zb1 ?_;exact aj (i+1) tR ⟨⟨oM,UK⟩,e⟩ oM
  have jF:i=min a.length b.length:=by have h:=c;omega
  refine Cz (λd=>?_) (λd=>?_)
  .have h35:=d
   refine Zb1 ?_;exact⟨by rw[uQ dJ jF];unfold vP;rw[zac oM];rfl,k.kept⟩
  have h35:=d;refine Cz (λd=>?_) (λd=>?_)
  .have h40:=d
   refine Zb1 ?_;exact⟨by rw[uQ dJ jF];unfold vP;rw[zab oM,zac oM];rfl,k.kept⟩
  have h40:=d;refine Zb1 ?_;exact⟨by rw[uQ dJ jF];unfold vP;rw[zab oM,zab oM];rfl,k.kept⟩
 have jF:i=min a.length b.length:=by have h:=S;omega
 refine Cz (λd=>?_) (λd=>?_)
 .have h35:=d
  refine Zb1 ?_;exact⟨by rw[uQ dJ jF];unfold vP;rw[zac oM];rfl,k.kept⟩
 have h35:=d;refine Cz (λd=>?_) (λd=>?_)
 .have h40:=d
  refine Zb1 ?_;exact⟨by rw[uQ dJ jF];unfold vP;rw[zab oM,zac oM];rfl,k.kept⟩
 have h40:=d;refine Zb1 ?_;exact⟨by rw[uQ dJ jF];unfold vP;rw[zab oM,zab oM];rfl,k.kept⟩
def O7 {l:List aC} (hl:aJ w v ah 3 l) (oP:l.length<=1000):aR prog 334 [v] w λv' w'=>∃x,v'=x/\True/\Turn noB (aY 41 3 ah x l) w w':=by
 obtain⟨A,m,rfl,⟨hm,om⟩,hA⟩:=hl;have H:=Sep.aF w;refine cK func334 ?_;refine Za3 ?_;refine Qn (Cd rfl (λk=>?_) (λk=>?_))
 .have hA0:A=none:=by have h:=k;cases A<;>first | rfl | cases h
  have Gx:l=[]:=by
   cases l with
   | nil=>rfl
   | cons x l=>obtain⟨ad,he⟩:=hA.addr (Nat.succ_pos _);rw[hA0]at he;cases he
  have k:=Sep.iW H 41 3 ah;refine Zb1 ?_;exact⟨_,rfl,trivial,by rw[Gx];exact k.turn⟩
 refine Zb0 ?_;refine Bs H [] (λbs _ k _=>?_);have k:Sep w noB (aY 41 3 ah (.slice (some ⟨bs,0,none⟩) 0 0) ([]:List aC)::[]) _:=Sep.nM (n:=0) k At0 rfl dC;refine Mv ?_;refine mU k At0 (hA.keep k.kept) (by unfold maxLen;simp;omega) (by simp;omega) (cells_one (λ_=>rfl) _) (h:=?_);intro v2 k k;refine Zb1 ?_;exact⟨_,rfl,trivial,by rw[zbu]at k;exact k.turn⟩
def FH {l:List bY} (hl:aJ w v aP 7 l) (oP:l.length<=1000):aR prog 28 [v] w λv' w'=>∃x,v'=x/\True/\Turn noB (aY 67 7 aP x l) w w':=by
 obtain⟨A,m,rfl,⟨hm,om⟩,hA⟩:=hl;have H:=Sep.aF w;refine cK func28 ?_;refine Za3 ?_;refine Qn (Cd rfl (λk=>?_) (λk=>?_))
 .have hA0:A=none:=by have h:=k;cases A<;>first | rfl | cases h
  have Gx:l=[]:=by
   cases l with
   | nil=>rfl
   | cons x l=>obtain⟨ad,he⟩:=hA.addr (Nat.succ_pos _);rw[hA0]at he;cases he
  have k:=Sep.iW H 67 7 aP;refine Zb1 ?_;exact⟨_,rfl,trivial,by rw[Gx];exact k.turn⟩
 refine Zb0 ?_;refine Bs H [] (λbs _ k _=>?_);have k:Sep w noB (aY 67 7 aP (.slice (some ⟨bs,0,none⟩) 0 0) ([]:List bY)::[]) _:=Sep.nM (n:=0) k At0 rfl dC;refine Mv ?_;refine mU k At0 (hA.keep k.kept) (by unfold maxLen;simp;omega) (by simp;omega) (cells_one (λ_=>rfl) _) (h:=?_);intro v2 k k;refine Zb1 ?_;exact⟨_,rfl,trivial,by rw[zbu]at k;exact k.turn⟩
def xQ {l:List bI} (hl:aJ w v aM 3 l) (oP:l.length<=1000):aR prog 50 [v] w λv' w'=>∃x,v'=x/\True/\Turn noB (aY 97 3 aM x l) w w':=by
 obtain⟨A,m,rfl,⟨hm,om⟩,hA⟩:=hl;have H:=Sep.aF w;refine cK func50 ?_;refine Za3 ?_;refine Qn (Cd rfl (λk=>?_) (λk=>?_))
 .have hA0:A=none:=by have h:=k;cases A<;>first | rfl | cases h
  have Gx:l=[]:=by
   cases l with
   | nil=>rfl
   | cons x l=>obtain⟨ad,he⟩:=hA.addr (Nat.succ_pos _);rw[hA0]at he;cases he
  have k:=Sep.iW H 97 3 aM;refine Zb1 ?_;exact⟨_,rfl,trivial,by rw[Gx];exact k.turn⟩
 refine Zb0 ?_;refine Bs H [] (λbs _ k _=>?_);have k:Sep w noB (aY 97 3 aM (.slice (some ⟨bs,0,none⟩) 0 0) ([]:List bI)::[]) _:=Sep.nM (n:=0) k At0 rfl dC;refine Mv ?_;refine mU k At0 (hA.keep k.kept) (by unfold maxLen;simp;omega) (by simp;omega) (cells_one (λ_=>rfl) _) (h:=?_);intro v2 k k;refine Zb1 ?_;exact⟨_,rfl,trivial,by rw[zbu]at k;exact k.turn⟩
def qg {l:List aC} (hl:aJ w v ah 3 l) (oP:l.length<=1000):aR prog 327 [v] w λv' w'=>∃x,v'=x/\True/\Turn noB (aY 41 3 ah x l) w w':=by
 have H:=Sep.aF w;refine cK func327 ?_;refine Nz (O7 hl oP) (λvx _ _ k _=>?_);refine Zb1 ?_;exact⟨_,rfl,trivial,k.turn⟩
end
def usC (q:List Int):LV:=q.map U
def iG (v:Int):LV:=usC (KJ v)
def FI (v:Int):(KJ v).length=6:=rfl
def TG (v:Int) (hi:i<6):(KJ v)[i]? =some (dgt v i):=by
 unfold KJ;rw[zbz,List.getElem?_range hi];rfl
def oG (v:Int) {i:Nat} (hi:i<6):(iG v)[0+i*1]? =some (U (dgt v i)):=by
 unfold iG usC;rw[zcz,zfd,zbz,TG v hi];rfl
def abt (q:List Int):(usC q).length=q.length:=zaf ..
def abu (q:List Int) (i:Nat) (a:Int):(usC q).set i (U a)=usC (q.set i a):=by unfold usC;rw[List.map_set]
def yI (A:List Int) (i:Nat):List Int:=A.take i++List.replicate (A.length-i) 0
def QA {A:List Int} (h:i<=A.length):(yI A i).length=A.length:=by
 unfold yI;rw[zad,zah,zcv];omega
def QB {A:List Int} {a:Int} (h:A[i]? =some a):(yI A i).set i a=yI A (i+1):=by
 have hl:=fO h;unfold yI;have h1:(A.take i).length=i:=by rw[zah];omega
 rw[zeu _ _ oM,h1,zen,show A.length-i=(A.length-(i+1))+1 from oM,zer,zdr,zay,h,zbm];rfl
def QC (A:List Int):yI A A.length=A:=by unfold yI;rw[zbr,zen];simp
section
variable {w:Wd}
def FJ (n:Int) (hn:fits n):Rk prog 222 [I n] w (agg (iG n)):=by
 have H:=Sep.aF w
 have h0:(wA n).tmod 4294967296=dgt n 0:=by
  have:=(mo n).1;rw[zes this.1];show wA n%_=n%_
  unfold wA;omega
 have h1:IntKind.u64.wrap ((wA n).tdiv 4294967296)=dgt n 1:=by
  have:=(mo n).1;rw[IntKind.wrap_u64,zet this.1];show wA n/_%_=n/_%_
  unfold wA;omega
 have hq:=hn.1;have hr:=hn.2;have e2:dgt n 2=n/4294967296/4294967296%4294967296:=rfl;have e3:dgt n 3=n/4294967296/4294967296/4294967296%4294967296:=rfl;have e4:dgt n 4=n/4294967296/4294967296/4294967296/4294967296%4294967296:=rfl;have e5:dgt n 5=n/4294967296/4294967296/4294967296/4294967296/4294967296%4294967296:=rfl;have e:iG n=[U (dgt n 0),U (dgt n 1),U (dgt n 2),U (dgt n 3),U (dgt n 4),U (dgt n 5)]:=rfl;refine oV func222 ?_;refine Az (λb1 _ _ _=>?_);refine Zb1 ?_;refine Vv (Gives.yU (c:=wA n) rfl (by rw[IntKind.wrap_u64];rfl)) ?_;refine Cz (λk=>?_) (λk=>?_)
 .have hc:=k
  have e':iG n=[U (dgt n 0),U (dgt n 1),U 4294967295,U 4294967295,U 4294967295,U 4294967295]:=by
   rw[e,show dgt n 2=4294967295 from oM,show dgt n 3=4294967295 from oM,show dgt n 4=4294967295 from oM,show dgt n 5=4294967295 from oM]
  refine Zb2 ?_;refine Vv (Gives.ajR (c:=dgt n 0) rfl rfl dC h0) (Mv ?_);refine Vv (Gives.ajQ (c:=dgt n 1) rfl rfl dC h1) (Zb4 ?_);refine Vv (Gives.AX rfl (Fills.one rfl rfl rfl sM rfl (Fills.one rfl rfl rfl sM rfl (Fills.one rfl rfl rfl sM rfl (Fills.one rfl rfl rfl sM rfl (Fills.one rfl rfl rfl sM rfl (Fills.one rfl rfl rfl sM rfl Fills.nil))))))) (Tz (λ_ S=>?_));refine Zb0 ?_;exact⟨_,fB S,by rw[e'];rfl,S.kept⟩
 have hc:=k
 have e':iG n=[U (dgt n 0),U (dgt n 1),U 0,U 0,U 0,U 0]:=by
  rw[e,show dgt n 2=0 from oM,show dgt n 3=0 from oM,show dgt n 4=0 from oM,show dgt n 5=0 from oM]
 refine Zb1 ?_;refine Vv (Gives.ajR (c:=dgt n 0) rfl rfl dC h0) (Mv ?_);refine Vv (Gives.ajQ (c:=dgt n 1) rfl rfl dC h1) (Zb4 ?_);refine Vv (Gives.AX rfl (Fills.one rfl rfl rfl sM rfl (Fills.one rfl rfl rfl sM rfl (Fills.one rfl rfl rfl sM rfl (Fills.one rfl rfl rfl sM rfl (Fills.one rfl rfl rfl sM rfl (Fills.one rfl rfl rfl sM rfl Fills.nil))))))) (Tz (λ_ S=>?_));refine Zb0 ?_;exact⟨_,fB S,by rw[e'];rfl,S.kept⟩
def Jd (x y:Int):Rk prog 151 [agg (iG x),agg (iG y)] w (agg (iG (x+y))):=by
 have H:=Sep.aF w;refine sQ func151 ?_;refine Sr (bB H (cs:=iG x) rfl (h:=λb2 w2 H2 k1=>?_));refine bB H2 (cs:=iG y) rfl (h:=λb3 w4 H4 k3=>?_);refine Az (λb4 w6 H6 k5=>?_);refine Az (λb5 w8 H8 k7=>?_);refine Zb2 ?_;refine aI (λi:Nat=>[(2,ay b2),(3,ay b3),(4,ay b4),(5,ay b5),(6,U (shl (x+y) i-shl x i-shl y i)),(7,I i)]) (λi w'=>i<=6/\Sep w noB [blk b5 (usC (yI (KJ (x+y)) i)) 238,blk b4 (usC [0,0,0,0,0,0]) 238,blk b3 (iG y) 238,blk b2 (iG x) 238] w') (λi _=>6-i) 0 ⟨rfl,rfl,rfl,rfl,zaw U (by show 0=x+y-x-y;omega),rfl,trivial⟩ ⟨zak _,H8⟩ (λi τ wa hI=>?_);obtain⟨hi,Ha⟩:=hI;refine Lp ?_;refine Cz (λIe=>?_) (λIe=>?_)
 .have aS:i<6:=oM
  obtain⟨hd1,Gq⟩:=aiO x y i;have hca:=RU x y i;have hbx:=ny x i;have hby:=ny y i;have hbz:=ny (x+y) i;refine Dz (λSa wb Hb=>?_);refine Zb1 ?_;refine Gp Sa 1 rfl rfl (λ_=>(Gives.jV rfl rfl oM)) (vB Sa 2 Hb (hv:=oG x aS) (h:=?_));refine Zb1 ?_;refine Gp Sa 4 rfl rfl (λ_=>(Gives.jV rfl rfl oM)) (vB Sa 5 Hb (hv:=oG y aS) (h:=?_));refine GS (Gn rfl (λ_=>Gives.ajP (c:=dgt x i+dgt y i) rfl rfl (by rw[IntKind.wrap_u64];omega)) ?_);refine Zb1 ?_;refine GS (Gn rfl (λ_=>Gives.ajP (c:=dgt x i+dgt y i+(shl (x+y) i-shl x i-shl y i)) rfl rfl (by rw[IntKind.wrap_u64];omega)) ?_);refine Zb3 ?_;refine Vv (Gives.ajR (c:=dgt (x+y) i) rfl rfl dC (by rw[zes oM,hd1])) ?_;refine Vv (Gives.jV rfl rfl oM) (rY Hb (cs':=usC (yI (KJ (x+y)) (i+1))) (ho:=Ul (by rw[abt,QA (by rw[FI];omega),FI];omega)) (hs:=by rw[zcz,zfd];exact(abu _ _ _).trans (zaw usC (QB (TG _ aS)))) (h:=λwc Hc=>?_));refine Zb1 ?_;refine Vv (Gives.ajQ (c:=shl (x+y) (i+1)-shl x (i+1)-shl y (i+1)) rfl rfl dC (by rw[Gq,IntKind.wrap_u64,zet oM];omega)) ?_;refine Zb2 ?_;refine Vc ((i+1:Nat):Int) ?_;refine Zb1 ?_;exact aj (i+1) tR ⟨oM,Hc⟩ oM
 have h6:i=6:=oM;subst h6;refine Zb0 ?_;rw[show yI (KJ (x+y)) 6=KJ (x+y)from QC _]at Ha;refine fE Ha (cs:=iG (x+y)) (h:=?_);refine Tz (λwd Hd=>?_);refine Zb0 ?_;exact⟨_,fB Hd,rfl,Hd.kept⟩
def Je (x:Int):Rk prog 223 [agg (iG x)] w (agg (iG (-x))):=by
 have H:=Sep.aF w;refine oV func223 ?_;refine Sr (bB H (cs:=iG x) rfl (h:=λb1 w2 H2 k1=>?_));refine Az (λb2 w4 H4 k3=>?_);refine Az (λb3 w6 H6 k5=>?_);refine Zb1 ?_;refine aI (λi:Nat=>[(1,ay b1),(2,ay b2),(3,ay b3),(4,I i)]) (λi w'=>i<=6/\Sep w noB [blk b3 (usC (yI (KJ (-1-x)) i)) 238,blk b2 (usC [0,0,0,0,0,0]) 238,blk b1 (iG x) 238] w') (λi _=>6-i) 0 tR ⟨zak _,H6⟩ (λi τ w9 hI=>?_);obtain⟨hi,H9⟩:=hI;refine Lp ?_;refine Cz (λIe=>?_) (λIe=>?_)
 .have aS:i<6:=oM
  have hdn:=aiP x i;have hbx:=ny x i;refine Zb2 ?_;refine Vv (Gives.jV rfl rfl oM) (K8 H9 (hv:=oG x aS) (h:=?_));refine Vv (Gives.al3 (c:=dgt (-1-x) i) rfl rfl (by rw[IntKind.wrap_u64];omega)) ?_;refine Vv (Gives.jV rfl rfl oM) (rY H9 (cs':=usC (yI (KJ (-1-x)) (i+1))) (ho:=Ul (by rw[abt,QA (by rw[FI];omega),FI];omega)) (hs:=by rw[zcz,zfd];exact(abu _ _ _).trans (zaw usC (QB (TG _ aS)))) (h:=λwa Ha=>?_));refine Zb1 ?_;refine Vc ((i+1:Nat):Int) ?_;refine Zb1 ?_;exact aj (i+1) tR ⟨oM,Ha⟩ oM
 have h6:i=6:=oM;subst h6;refine Zb0 ?_;rw[show yI (KJ (-1-x)) 6=KJ (-1-x)from QC _]at H9;refine fE H9 (cs:=iG (-1-x)) (h:=?_);refine Vv (Gives.AX rfl (Fills.one rfl rfl rfl sM rfl Fills.nil)) (Kz (Jd (-1-x) 1) (λwb Hb ka=>?_));rw[show -1-x+1= -x from oM];refine iy Hb (us:=iG (-x)) (h:=λwc Hc=>?_);refine Zb0 ?_;exact⟨_,fB Hc,rfl,Hc.kept⟩
end
end
end Go.Proofs.Mw
