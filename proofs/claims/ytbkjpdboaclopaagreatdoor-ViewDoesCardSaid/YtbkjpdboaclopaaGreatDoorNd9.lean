/-
 append onto a row that is full:the answer is new. Rows of numbers and of texts.
-/
import Derived.Test.YtbkjpdboaclopaaGreatDoorNd8
set_option linter.all false
set_option maxRecDepth 4000
namespace Go.Proofs.Mw
variable {v z:Value} {x y:Od} {bytes d:Nat} {w:Wd} {A:OA}
open Go.RowKit
section
section
variable {α:Type} {enc:α->LV} {k e:Nat} {l news:List α} {A B:OA} {w w' w0:Wd} {S:NP} {rs:List HP}
def aiR {b s n:Nat} {xs:LV} (h:w.ownsRow b e s v n xs):w.ownsRow 0 e s v n xs:=by
 refine⟨h.1,?_⟩
 rcases h.2 with h2 | ⟨g,cap,cur,hv,_,r⟩
 .exact .inl h2
 exact .inr ⟨g,cap,cur,hv,zai _,r⟩
def OW (h:w.grownBy w' none):Kept noB w w':=⟨h.os,h.tape,h.output,h.size,λk hk _=>h.block k hk λe=>by cases e⟩
def Qg {P:Program} {ρ:Od->Value} {ty:Td} {t c bytes:Nat} [hs:dn P t e] [hc:Cells P e k bytes] [hz:Zero P e z] [hk:jd enc k]
    (H:Sep w0 S rs w) (hx:ρ x=.slice A l.length l.length) (hr:Rd w A enc k l) (hy:ρ y=.slice B news.length c) (Zc:Rd w B enc k news) (qF: ∀u∈news.flatMap enc,u.oneCell'=true)
    (zF:0<k) (Es:z.cells.size=k) (iJ:0<news.length) (h63:l.length+news.length<=maxLen) (hbytes:(l.length+news.length)*bytes<=140737488355328):
    ∃v' w',Gives P ρ (.call {callee:=.builtin .append,args:= #[x,y],argTypes:= #[t,t]}) ty w v' w'/\Sep w0 S (aU e k enc v' (l++news)::rs) w'/\Kept noB w w':=by
  have fin: ∀v' w',(Builtin.append_ #[t,t] ty #[.slice A l.length l.length,.slice B news.length c]).run P w=.ok v' w'->w'.ownsRow 0 e k v' (l.length+news.length) (l.flatMap enc++news.flatMap enc)->Kept noB w w'->(∀b,v'.ownBlock=some b->w.heap.size<=b)->
      ∃v' w',Gives P ρ (.call {callee:=.builtin .append,args:= #[x,y],argTypes:= #[t,t]}) ty w v' w'/\Sep w0 S (aU e k enc v' (l++news)::rs) w'/\Kept noB w w':=by
    intro v' w' iw oI cK hb;refine⟨v',w',λ_ _ _ _=>?_,H.new (F':=λb=>v'.ownBlock=some b) cK ⟨?_,λb=>Iff.rfl⟩ hb,cK⟩
    . simp only[execOp,resolve,invoke,builtin,zbj,zbl,zan,zce,zav,zci,hx,hy,iw]
    show w'.ownsRow 0 e k v' (l++news).length ((l++news).flatMap enc)
    rw[zad,zbv];exact oI
  cases A with
  | none=>
    have hl:l=[]:=by
      rcases zef l.length with h | h
      . exact zbg h
      obtain⟨ad,h1⟩:=hr.addr h;cases h1
    subst hl;obtain⟨v',w',iw,oI,hg,hb⟩:=vG (P:=P) (ty:=ty) t e zF Es (.slice none 0 0) 0 [] (World.ownsRow_nil w 0 e k) B news.length c (news.flatMap enc) Zc qF h63 hbytes;refine fin v' w' iw oI (OW hg) λb YZ=>?_
    rcases hb with h | h
    . rw[h]at YZ;cases YZ
    rw[h]at YZ;injection YZ with YZ;omega
  | some ad=>
    obtain⟨i,hi,qE⟩:=zbc.1 hc.size;simp only[Prod.mk.injEq]at qE
    have xq:i.zero=some z:=by
      have:=hz.run w;simp[zeroValue,typeInfo,hi]at this;cases hq:i.zero with
      | none=>simp[hq]at this
      | some u=>simp[hq]at this;rw[this]
    obtain⟨bd,hB,Pv⟩:=Zc.at_ iJ;subst hB
    have hca: ∀j u,(l.flatMap enc)[j]? =some u->w.cell? (ad.add j)=some u:=by
      intro j u hu
      rcases zef l.length with h | h
      . have hn:=zbg h
        subst hn;simp at hu
      obtain⟨ad',h1,h2⟩:=hr.at_ h;injection h1 with h1
      subst h1;exact h2 j u hu
    obtain⟨v',w',iw,oI,hg⟩:=run_append_arg_grows (P:=P) w t ty e i z k bytes hs.und hi xq qE.1 qE.2 Es zF ad l.length l.length (l.flatMap enc) hr.len hca bd news.length c (news.flatMap enc) Zc.len Pv oM h63 hbytes;exact fin v' w' iw (aiR oI) (OW hg) λb hb=>(oI.lt b hb).1
end
section
variable {P:Program} {r:Option Nat} {n:Nat} {ops:AO} {Q:Post} {rest:LO} {σ:St} {w w' w0:Wd} {S:NP} {rs:List HP} {put:HP->List HP} {ty:Td} {pos:String} {after:Array Edge} {guard:Option (Nat×Bool)} {lv:List Bool} {pd:LNB} {α:Type} {enc:α->LV} {k e:Nat} {l news:List α} {A B:OA}
def OX {t c:Nat} [hs:dn P t e] [hc:Cells P e k bytes] [hz:Zero P e z] [hk:jd enc k]
    (H:Sep w0 S rs w) (hr:Rd w A enc k l) (Zc:Rd w B enc k news) (iJ:0<news.length) (h63:l.length+news.length<=maxLen) (hbytes:(l.length+news.length)*bytes<=140737488355328) (qF: ∀u∈news.flatMap enc,u.oneCell'=true)
    (hx:evF σ x=.slice A l.length l.length:=by exact rfl) (hy:evF σ y=.slice B news.length c:=by exact rfl) (zF:0<k:=by decide) (Es:z.cells.size=k:=by exact rfl) (hd:Nat.blt d n=true:=by exact rfl)
    (h: ∀v' w',Sep w0 S (aU e k enc v' (l++news)::rs) w'->Kept noB w w'->FL P r n ops Q rest (upd σ d v') w'):
    FL P r n ops Q (⟨some d,.call {callee:=.builtin .append,args:= #[x,y],argTypes:= #[t,t]},ty,pos,after,none⟩::rest) σ w:=by
  obtain⟨v',w',hg,hs',cK⟩:=Qg (P:=P) (t:=t) (ty:=ty) H hx hr hy Zc qF zF Es iJ h63 hbytes;exact dD hg hd (h v' w' hs' cK)
def Ep {P:Program} {ρ:Od->Value} {ty:Td} {t c bytes:Nat} [hs:dn P t e] [hc:Cells P e k bytes] [hz:Zero P e z] [hk:jd enc k]
    (H:Sep w0 S rs w) (hx:ρ x=v) (hy:ρ y=.slice B news.length c) (Zc:Rd w B enc k news) (hat:At rs (aU e k enc v l) put) (qF: ∀u∈news.flatMap enc,u.oneCell'=true)
    (zF:0<k) (Es:z.cells.size=k) (h63:l.length+news.length<=maxLen) (hbytes:(l.length+news.length)*bytes<=140737488355328):
    ∃v' w',Gives P ρ (.call {callee:=.builtin .append,args:= #[x,y],argTypes:= #[t,t]}) ty w v' w'/\Sep w0 S (put (aU e k enc v' (l++news))) w':=by
  obtain⟨v',w',hg,h2⟩:=Ap (P:=P) (t:=t) (ty:=ty) H hx hy hat Zc qF zF Es h63 hbytes;refine⟨v',w',hg,?_⟩;have e:aU e k enc v' (l++news)=vF e k v' (l.length+news.length) (l.flatMap enc++news.flatMap enc):=by unfold aU;rw[zad,zbv]
  rw[e];exact h2
def ni {t c:Nat} [hs:dn P t e] [hc:Cells P e k bytes] [hz:Zero P e z] [hk:jd enc k]
    (H:Sep w0 S rs w) (hat:At rs (aU e k enc v l) put) (Zc:Rd w B enc k news) (h63:l.length+news.length<=maxLen) (hbytes:(l.length+news.length)*bytes<=140737488355328) (qF: ∀u∈news.flatMap enc,u.oneCell'=true)
    (hx:evF σ x=v:=by exact rfl) (hy:evF σ y=.slice B news.length c:=by exact rfl) (zF:0<k:=by decide) (Es:z.cells.size=k:=by exact rfl) (hd:Nat.blt d n=true:=by exact rfl)
    (h: ∀v' w',Sep w0 S (put (aU e k enc v' (l++news))) w'->FL P r n ops Q rest (upd σ d v') w'):
    FL P r n ops Q (⟨some d,.call {callee:=.builtin .append,args:= #[x,y],argTypes:= #[t,t]},ty,pos,after,none⟩::rest) σ w:=by
  obtain⟨v',w',hg,hs'⟩:=Ep (P:=P) (t:=t) (ty:=ty) H hx hy Zc hat qF zF Es h63 hbytes;exact dD hg hd (h v' w' hs')
def zB (fB:dX n ops=true) (i:Nat) (pd':LNB) {t c bytes:Nat} [hs:dn P t e] [hc:Cells P e k bytes] [hz:Zero P e z] [hk:jd enc k]
    (H:Sep w0 S rs w) (hat:At rs (aU e k enc v l) put) (Zc:Rd w B enc k news) (h63:l.length+news.length<=maxLen) (hbytes:(l.length+news.length)*bytes<=140737488355328) (qF: ∀u∈news.flatMap enc,u.oneCell'=true)
    (ho:ops[i]? =some ⟨some d,.call {callee:=.builtin .append,args:= #[x,y],argTypes:= #[t,t]},ty,pos,after,guard⟩:=by exact rfl)
    (hw:Region.wanted ⟨some d,.call {callee:=.builtin .append,args:= #[x,y],argTypes:= #[t,t]},ty,pos,after,guard⟩ (bY ops σ)=true:=by kernel_rfl)
    (hx:evF σ x=v:=by exact rfl) (hy:evF σ y=.slice B news.length c:=by exact rfl) (zF:0<k:=by decide) (Es:z.cells.size=k:=by exact rfl)
    (dN:fE ops lv (pd.map (·.1)) i=true:=by kernel_rfl) (oH:pd.filter (λp=> !((above ops i).contains p.1))=pd':=by exact pD)
    (h: ∀v' w',Sep w0 S (put (aU e k enc v' (l++news))) w'->jo P ops (upd σ d v') w' pd'/\FG P r n ops Q (lv.set i true) pd' (upd σ d v') w'):FG P r n ops Q lv pd σ w:=
  vK fB i pd' ho hw (Ep (P:=P) (t:=t) (ty:=ty) H hx hy Zc hat qF zF Es h63 hbytes) dN oH h
end
section
variable {P:Program} {r:Option Nat} {n:Nat} {ops:AO} {Q:Post} {rest:LO} {σ:St} {w w' w0:Wd} {S:NP} {rs:List HP} {put:HP->List HP} {ty:Td} {pos:String} {after:Array Edge} {guard:Option (Nat×Bool)} {lv:List Bool} {pd:LNB} {α:Type} {enc:α->LV} {k e:Nat} {l news:List α} {A B:OA} {v:Value}
def gD (fB:dX n ops=true) (i:Nat) (pd':LNB) {t e:Td} {xs:List Od} {parts:List (Nat×Od)} {out:LV} {size:Nat} [hs:dn P t e] [hc:Cells P e size bytes] [hz:Zero P e z] (H:Sep w0 S rs w) (hE:eu (evF σ) size xs out)
    (ho:ops[i]? =some ⟨some d,.buildSlice t xs.length parts.toArray,ty,pos,after,guard⟩:=by exact rfl)
    (hw:Region.wanted ⟨some d,.buildSlice t xs.length parts.toArray,ty,pos,after,guard⟩ (bY ops σ)=true:=by kernel_rfl)
    (hp:parts=(xs.zipIdx 0).map λp=>(p.2,p.1):=by exact rfl) (hlen:Nat.ble (xs.length*size) 16777216=true:=by exact rfl)
    (dN:ow ops lv (pd.map (·.1)) i=true:=by kernel_rfl) (oH:pd.filter (λp=> !((above ops i).contains p.1))=pd':=by exact pD)
    (h: ∀b w',Sep w0 S (blk b out e::rs) w'->jo P ops (upd σ d (.slice (some ⟨b,0,none⟩) xs.length xs.length)) w' pd'/\FG P r n ops Q (lv.set i true) pd' (upd σ d (.slice (some ⟨b,0,none⟩) xs.length xs.length)) w'):pV P r n ops Q lv pd σ w i:=
  GR fB i pd' (C:=λv w'=>∃b,v=.slice (some ⟨b,0,none⟩) xs.length xs.length/\Sep w0 S (blk b out e::rs) w') ho hw ⟨_,_,Gives.buildSlice hE hp hlen,_,rfl,H.alloc _⟩ dN oH λv w' ⟨b,hv,af0⟩=>by subst hv;exact h b w' af0
def OY (fB:dX n ops=true) (e:Nat) (pd':LNB) {f:FuncId} {xs:List Od} {ats:Array Td} {vals:LV} (H:Sep w0 S rs w) (hc:Rk P f vals w v)
    (ho:ops[e]? =some ⟨some d,.call {callee:=.value (.func f),args:=xs.toArray,argTypes:=ats},ty,pos,after,guard⟩:=by exact rfl)
    (hw:Region.wanted ⟨some d,.call {callee:=.value (.func f),args:=xs.toArray,argTypes:=ats},ty,pos,after,guard⟩ (bY ops σ)=true:=by kernel_rfl) (hv:xs.map (evF σ)=vals:=by exact rfl) (dN:ow ops lv (pd.map (·.1)) e=true:=by kernel_rfl)
    (oH:pd.filter (λp=> !((above ops e).contains p.1))=pd':=by exact pD) (h: ∀w',Sep w0 S rs w'->Kept noB w w'->jo P ops (upd σ d v) w' pd'/\FG P r n ops Q (lv.set e true) pd' (upd σ d v) w') (he:qz P f:=by exact eT):pV P r n ops Q lv pd σ w e:=
  Ka fB e pd' ho hw hc hv dN oH λv' w' ⟨h1,h2⟩=>by subst h1;exact h w' (H.keep h2) h2
end
def Rd.cut {α:Type} {enc:α->LV} {k:Nat} [hk:jd enc k] {l:List α} (h:Rd w A enc k l) (m:Nat):Rd w A enc k (l.take m):=by
 refine⟨jw hk.len _,λhn=>?_⟩;have hl:0<l.length:=by rw[zah]at hn;omega
 obtain⟨ad,h1,h2⟩:=h.at_ hl;refine⟨ad,h1,λj u hu=>h2 j u ?_⟩;rw[Kl hk.len,zcu]at hu
 split at hu
 .exact hu
 cases hu
def Rd.from {α:Type} {enc:α->LV} {k:Nat} [hk:jd enc k] {l:List α} (h:Rd w A enc k l) (m:Nat):Rd w (A.map λa=>a.add (m*k)) enc k (l.drop m):=by
 refine⟨jw hk.len _,λhn=>?_⟩;rw[zbo]at hn;obtain⟨ad,h1,h2⟩:=h.at_ oM;subst h1;refine⟨ad.add (m*k),rfl,λj u hu=>?_⟩;rw[add_add];refine h2 _ _ ?_;rw[<-hu];have e:l.flatMap enc=(l.take m).flatMap enc++(l.drop m).flatMap enc:=by rw[<-zbv,zbs]
 have el:((l.take m).flatMap enc).length=m*k:=by rw[jw hk.len,zah,zcp oM]
 rw[e,zby oM,el,Nat.add_sub_cancel_left]
def Rd.nil {α:Type} {enc:α->LV} {k:Nat}:Rd w A enc k []:=⟨sM,λh=>zas h sM⟩
def Rd.apt {α:Type} {enc:α->LV} {k c:Nat} [hk:jd enc k] {l:List α} (h:Rd w A enc k l) (m:Nat) (hc:l.length<=c):Rd w (if c=m then A else A.map λa=>a.add (m*k)) enc k (l.drop m):=by
 split
 .rw[zbu oM];exact Rd.nil
 exact h.from m
end
def intCells (n:Int):LV:=[I n]
def gP (s:L8):LV:=[str s]
instance:jd intCells 1:=⟨λ_=>rfl⟩
instance:jd gP 1:=⟨λ_=>rfl⟩
def vZ {α β:Type} (e k:Nat) (enc:α->LV) (val:β->Value) (row:β->List α) (l:List β):HP:=je (l.map λx=>aU e k enc (val x) (row x))
section
variable {α β:Type} {enc:α->LV} {val:β->Value} {row:β->List α} {k e:Nat} {l:List β} {x:β} {w w0:Wd} {S:NP} {rs:List HP} {put:HP->List HP}
def Sep.acZ (h:Sep w0 S rs w) (e k:Nat) (enc:α->LV) (val:β->Value) (row:β->List α):Sep w0 S (vZ e k enc val row []::rs) w:=Sep.jP trivial h
def Sep.YL (h:Sep w0 S (aU e k enc (val x) (row x)::vZ e k enc val row l::rs) w):Sep w0 S (vZ e k enc val row (l++[x])::rs) w:=by
 refine Sep.imp h.aR At0 λF hF=>?_;obtain⟨F1,F2,hF,hd,h1,h2⟩:=hF;unfold vZ;rw[zak];exact Ew (l2:=[]) hF hd h1 (by rw[zbt];exact h2)
end
variable {a b c:aC} {t ta:bR} {k:Int} {cols:List bT} {res:Option aC} {r:List aC}
open Go.Lib
section
attribute [local irreducible] FW FL FG FGn jJ jO fC lJ Qfn Gives
section
def resT (cols:List bT) (st:List bR) (x:bL):Option bR:=
 if dI x.kind=0 then qU cols x else vW x.kind (st.getD (st.length-dI x.kind) gW) (st.getD (st.length-1) gW)
def CK {cols:List bT} {st:List bR} {x:bL} (h:dU x=false\/st.length<dI x.kind):stepT cols st x=none:=by
 unfold stepT
 by_cases h1:dU x=false
 .dsimp only;rw[zac (.inl h1)]
 have hm:dU x=true:=by simpa using h1
 rw[DR hm]at h;dsimp only;rw[zac (h.imp id id)]
def Tk {cols:List bT} {st:List bR} {x:bL} (h1:dU x=true) (h2:dI x.kind<=st.length):stepT cols st x=(resT cols st x).map λt=>st.take (st.length-dI x.kind)++[t]:=by
 unfold stepT resT;rw[DR h1]at h2 ⊢;dsimp only;rw[zaa (by rw[h1];simp;omega)]
def Tm (k:Int):dI k<=2:=by
 unfold dI
 repeat' split
 all_goals omega
def jy {α:Type} {l:List α} {i:Nat} {c d:α} (h:l[i]? =some c):l.getD i d=c:=by rw[zaz,h];rfl
def dP {α:Type} {w0:Wd} {S:NP} {rs:List HP} {put:HP->List HP} {e k c:Nat} {enc:α->LV} {l:List α} {A:OA} (H:Sep w0 S rs w) (hat:At rs (aU e k enc (.slice A l.length c) l) put):Rd w A enc k l:=Sep.rowAt H hat
attribute [local irreducible] dU oD
section
variable {w:Wd}
theorem Km {l:List bL} {vc vl:Value} (hc:aJ w vc aM 7 cols) (hl:aJ w vl aN 3 l):Rk Tryz.prog 65 [vc,vl] w (.tuple #[agg (aD (iM cols l).1),I (iM cols l).2]):=by
  have Pg:=hc;obtain⟨A,m,rfl,⟨hm,nX⟩,hA⟩:=hc;obtain⟨C,n,rfl,⟨hn,hn'⟩,hC⟩:=hl;have H:=Sep.aH w;obtain⟨res,ak⟩: ∃res,res=iM cols l:=⟨_,rfl⟩;rw[<-ak];unfold iM at ak;refine tN Tryz.func65 ?_;refine Az (λb1 w2 H2 k1=>?_);refine Cz (λVm=>?_) (λVm=>?_)
  . have bX:res=(gW,5):=by rw[ak,zac oM]
    refine Sr (Vb (aD gW) ?_);refine Tz (λwa Ha=>?_);refine V1 ?_;exact⟨_,bF Ha,by rw[bX];rfl,Ha.kept⟩
  rw[zaa oM]at ak;refine V2 ?_;have Hb:=Sep.iW H2 45 2 aD;refine aI (λx:Nat×List bR×Value=>[(0,.slice A cols.length m),(1,.slice C l.length n),(4,.pointer (some ⟨b1,0,none⟩)),(6,x.2.2),(7,I x.1)]) (λx w'=>(x.1<=l.length/\x.2.1.length<=x.1/\runT cols x.2.1 (l.drop x.1)=runT cols [] l)/\Sep w noB [aU 45 2 aD x.2.2 x.2.1,blk b1 (aD gW) 45] w') (λx _=>l.length-x.1) (0,[],_) tR ⟨⟨zai _,zbi _,rfl⟩,Hb⟩ (λx τ wb hI=>?_);obtain⟨i,st,v0⟩:=x;obtain⟨⟨hi,YS,dK⟩,Hb⟩:=hI;dsimp only at hi YS dK Hb;obtain⟨B,cb,rfl,Pv,hB⟩:=Sep.bH Hb At0;refine Lp ?_;refine Cz (λIe=>?_) (λIe=>?_)
  . have aX:i<l.length:=oM
    obtain⟨x,hx⟩:=get_some aX
    have hdr:l.drop i=x::l.drop (i+1):=by
      rw[zbn aX];rw[zab aX]at hx;injection hx with hx;rw[hx]
    rw[hdr,runT]at dK;have yH:=Tm x.kind;refine V8 ?_;refine eG (OV _) (h:=?_);refine Kz (afG _) (λwc Hc ka=>?_);refine V2 ?_;refine dL (t:=36) rfl (λSa=>?_) (λSa=>?_)
    . have yI:dU x=false:=by simpa using Sa
      refine V1 ?_;refine Vb (aD gW) ?_;refine Tz (λwd Hd=>?_);refine V1 ?_;have mE:stepT cols st x=none:=CK (by first | (left;assumption) | (right;omega));rw[mE]at dK;rw[<-dK]at ak;exact⟨_,bF Hd,by rw[ak];rfl,Hd.kept⟩
    have yI:dU x=true:=by simpa using Sa
    refine Cz (λIf=>?_) (λIf=>?_)
    . refine Sr (Vb (aD gW) ?_)
      refine Tz (λwe He=>?_);refine V1 ?_;have mE:stepT cols st x=none:=CK (by first | (left;assumption) | (right;omega));rw[mE]at dK;rw[<-dK]at ak;exact⟨_,bF He,by rw[ak];rfl,He.kept⟩
    have rW:dI x.kind<=st.length:=oM;have Eu:=Tk (cols:=cols) yI rW;obtain⟨rt,hrt⟩: ∃rt,rt=resT cols st x:=⟨_,rfl⟩;rw[<-hrt]at Eu;rw[Eu]at dK;unfold resT at hrt;refine V0 ?_;refine Vb (aD gW) ?_;refine Az (λbt wf Hf _=>?_);refine Tz (λwg Hg=>?_);refine O1 ?_;refine Qn (dB (λz:bR×Bool=>[(0,.slice A cols.length m),(1,.slice C l.length n),(4,.pointer (some ⟨b1,0,none⟩)),(6,.slice B st.length cb),(7,I i),(8,I st.length),(9,I (dI x.kind)),(10,.pointer (some ⟨bt,0,none⟩)),(11,.bool z.2)]) (λz w'=>(z.2=rt.isSome/\∀y,rt=some y->z.1=y)/\Sep w noB [blk bt (aD z.1) 45,aU 45 2 aD (.slice B st.length cb) st,blk b1 (aD gW) 45] w') ?_ ?_)
    . refine Cz (λIg=>?_) (λIg=>?_)
      . rw[zac oM]at hrt
        refine Kz (afK x (Pg.keep Hg.kept)) (λwh Hh kb=>?_);refine Tz (λwi Hi=>?_);refine V1 ?_;exact au ((qU cols x).getD gW,(qU cols x).isSome) tR ⟨⟨by rw[hrt],λy hy=>by rw[<-hrt,hy];rfl⟩,Hi⟩
      have jH:1<=dI x.kind:=oM;obtain⟨a,ha⟩:=get_some (l:=st) (i:=st.length-dI x.kind) oM;obtain⟨b,hb⟩:=get_some (l:=st) (i:=st.length-1) oM;rw[zaa oM,jy ha,jy hb]at hrt;refine Dz (λSb wj Hj=>?_);refine V8 ?_;refine Gc Sb 8 ((st.length-dI x.kind:Nat):Int) ?_;refine V1 ?_;refine GS (Gt rfl (Gives.pF rfl (dP Hj At1) ha) ?_);refine V2 ?_;refine Gc Sb 13 ((st.length-1:Nat):Int) ?_;refine V1 ?_;refine GS (Gt rfl (Gives.pF rfl (dP Hj At1) hb) ?_);refine p8 Sb 16 [] rfl kR (afL x.kind a b) rfl kR kR (λv' wk hv=>?_);obtain⟨⟨t,rfl,ht⟩,cK⟩:=hv;have Hk:=Hj.keep cK;refine⟨sT,?_⟩;refine V3 ?_;refine bM Sb 20 _ Hk (h:=λwl Hl=>⟨sT,?_⟩);refine V1 ?_;exact au (t,(vW x.kind a b).isSome) tR ⟨⟨by rw[hrt],λy hy=>ht y (by rw[<-hrt];exact hy)⟩,Hl⟩
    rintro⟨t,ok⟩ τ wm ⟨⟨aob,Fj⟩,Hm⟩;dsimp only at aob Fj Hm;refine Lp ?_;refine O2 ?_;refine Qn (Cd rfl (λIh=>?_) (λIh=>?_))
    . have hrn:rt=none:=by
        cases rt with
        | none=>rfl
        | some y=>rw[aob]at Ih;cases Ih
      rw[hrn]at dK;have DZ:none=runT cols [] l:=dK;rw[<-DZ]at ak;have bX:res=(gW,220):=ak;refine Sr (Vb (aD gW) ?_);refine Tz (λwn Hn=>?_);refine V1 ?_;exact⟨_,bF Hn,by rw[bX];rfl,Hn.kept⟩
    obtain⟨y,hy⟩: ∃y,rt=some y:=by
      cases rt with
      | none=>rw[aob]at Ih;cases Ih
      | some y=>exact⟨y,rfl⟩
    have hty:=Fj y hy;subst hty;rw[hy]at dK;have DZ:runT cols (st.take (st.length-dI x.kind)++[t]) (l.drop (i+1))=runT cols [] l:=dK;refine Dz (λSc wo Ho=>?_);refine V3 ?_;refine Gc Sc 3 ((st.length-dI x.kind:Nat):Int) ?_;refine V2 ?_;refine Gz Sc 6 _ Ho ([t].flatMap aD) (h:=λb wp Hp=>⟨sT,?_⟩);have abz:=Sep.aps (m:=st.length-dI x.kind) Hp At2 oM;have Bj:(st.take (st.length-dI x.kind)).length=st.length-dI x.kind:=by rw[zah];omega
    refine gH Sc 7 _ abz (news:=[t]) At1 (by rw[Bj];unfold maxLen;simp;omega) (by rw[Bj];simp;omega) (cells_one (λ_=>rfl) [t]) (h:=λv2 wq Hq=>⟨sT,?_⟩);refine tq Sc 8 _ (h:=⟨sT,?_⟩);refine V3 ?_;exact aj (i+1,st.take (st.length-dI x.kind)++[t],v2) tR ⟨⟨dO,by dsimp only;rw[zad,Bj];simp;omega,DZ⟩,Hq.bI⟩ dO
  have jG:i=l.length:=oM;rw[jG,zdz,runT]at dK;rw[<-dK]at ak;refine Cz (λIi=>?_) (λIi=>?_)
  . have bX:res=(gW,220):=by
      rw[ak]
      match st,Ii with
      | [],_=>rfl
      | [_],h=>exact zas rfl h
      | _::_::_,_=>rfl
    refine Sr (Vb (aD gW) ?_);refine Tz (λwr Hr=>?_);refine V1 ?_;exact⟨_,bF Hr,by rw[bX];rfl,Hr.kept⟩
  have h1:st.length=1:=oM;obtain⟨t,ht⟩:=zfo.1 h1;have hg:st[0]? =some t:=by rw[ht];rfl
  have bX:res=(t,0):=by rw[ak,ht]
  refine V1 ?_;refine Vv (Gives.fA (i:=0) rfl rfl hB oM) (Vv (Gives.pF (i:=0) rfl hB hg) ?_);refine Tz (λws Hs=>?_);refine V1 ?_;exact⟨_,bF Hs,by rw[bX];rfl,Hs.kept⟩
end
end
open Go.Proofs.Tryz
section
def YM {n b:Int} (hn: -9223372036854775808<=n/\n<=9223372036854775807) (h0:b≠0) (h1:b≠ -1): -9223372036854775808<=n.tdiv b/\n.tdiv b<=9223372036854775807:=by
 by_cases hb:b=1
 .subst hb;rw[Int.tdiv_one];exact hn
 have e:(n.tdiv b).natAbs=n.natAbs/b.natAbs:=Int.natAbs_tdiv n b;have hb2:2<=b.natAbs:=oM;have h2:n.natAbs/b.natAbs<=n.natAbs/2:=Nat.div_le_div_left hb2 dC;obtain⟨q,hq⟩: ∃q,q=n.natAbs/b.natAbs:=⟨_,rfl⟩;obtain⟨m,hm⟩: ∃m,m=n.tdiv b:=⟨_,rfl⟩;rw[<-hq]at e h2;rw[<-hm]at e ⊢;omega
def Tn {a b:Int} (h0:b≠0) (hb: -9223372036854775808<=b/\b<=9223372036854775807):(IntKind.i64.wrap (a*b)).tdiv b=a↔aY (a*b)=true:=by
 obtain⟨p,hp⟩: ∃p,p=a*b:=⟨_,rfl⟩;rw[<-hp];constructor
 .intro h
  refine zap ?_;obtain⟨n,hn⟩: ∃n,n=IntKind.i64.wrap p:=⟨_,rfl⟩;rw[<-hn]at h;have hm:=(Int.mul_tdiv_add_tmod n b).symm;have CU:(n.tmod b).natAbs=n.natAbs%b.natAbs:=Int.natAbs_tmod n b;have hm3:n.natAbs%b.natAbs<b.natAbs:=Nat.mod_lt _ oM;rw[h,Int.mul_comm,<-hp]at hm;rw[IntKind.wrap_i64]at hn;omega
 intro h;have h':=zbd h;rw[wrap64 h',hp,Int.mul_tdiv_cancel _ h0]
def Kn (k:Int) (a b:aC):aC:=
 if k=13/\((a.null=false/\a.n=0)\/(b.null=false/\b.n=0))then gY false
 else if k=14/\(a.n=1\/b.n=1)then gY true
 else if a.null=true\/b.null=true then bK
 else if k=15 then gY (decide (a.n=0))
 else gY (decide (k=13))
section
variable {w:Wd}
def G7 (a b:Int) (ha:fits a) (hb:fits b):aQ prog 269 [I a,I b] w λv w'=>(∃c,v=.tuple #[I c,.bool (aY (a*b))]/\(aY (a*b)=true->c=a*b))/\Kept noB w w':=by
 have H:=Sep.aH w;obtain⟨Vj,Vz⟩:=ha;obtain⟨Fv,hb2⟩:=hb;refine bU func269 ?_;refine Sz (λk=>?_) (λk=>?_)
 .refine V3 ?_
  have h0:a*b=0:=by first | (rw[show a=0 from oM];simp) | (rw[show b=0 from oM];simp)
  rw[h0];exact⟨⟨0,rfl,λ_=>rfl⟩,H.kept⟩
 refine Cz (λk=>?_) (λk=>?_)
 .refine V2 ?_
  have h0:a*b=0:=by first | (rw[show a=0 from oM];simp) | (rw[show b=0 from oM];simp)
  rw[h0];exact⟨⟨0,rfl,λ_=>rfl⟩,H.kept⟩
 refine Cz (λk=>?_) (λk=>?_)
 .refine V1 ?_
  refine Vv (Gives.ak9 (c:=IntKind.i64.wrap (0-b)) rfl rfl) (V4 ?_);have h0:a*b= -b:=by rw[show a= -1 from oM];simp
  rw[h0];have hf:aY (-b)=decide (b≠ -9223372036854775808):=by unfold aY;rw[zbf];omega
  rw[hf];exact⟨⟨IntKind.i64.wrap (0-b),rfl,λh=>by have:=zbd h;rw[wrap64 oM];omega⟩,H.kept⟩
 refine Cz (λk=>?_) (λk=>?_)
 .refine V1 ?_
  refine Vv (Gives.ak9 (c:=IntKind.i64.wrap (0-a)) rfl rfl) (V4 ?_);have h0:a*b= -a:=by rw[show b= -1 from oM];simp
  rw[h0];have hf:aY (-a)=decide (a≠ -9223372036854775808):=by unfold aY;rw[zbf];omega
  rw[hf];exact⟨⟨IntKind.i64.wrap (0-a),rfl,λh=>by have:=zbd h;rw[wrap64 oM];omega⟩,H.kept⟩
 refine V2 ?_;refine Vv (Gives.apq (c:=IntKind.i64.wrap (a*b)) rfl rfl rfl) (Dz (λk _ S=>?_));refine V3 ?_;refine Gp k 3 rfl rfl (λ_=>(Gives.apr (c:=(IntKind.i64.wrap (a*b)).tdiv b) rfl rfl oM (wrap64 (YM (by rw[IntKind.wrap_i64];omega) oM oM)))) ?_;refine V4 ?_;have Tp:=Tn (a:=a) (b:=b) oM ⟨Fv,hb2⟩;have hf:aY (a*b)=decide ((IntKind.i64.wrap (a*b)).tdiv b=a):=by rw[zdu,decide_eq_true_eq];exact Tp.symm
 refine⟨⟨IntKind.i64.wrap (a*b),by rw[hf];rfl,λh=>wrap64 (zbd h)⟩,S.kept⟩
theorem E9 (k:Int) (a b:aC):Rk prog 266 [I k,agg (ah a),agg (ah b)] w (agg (ah (Kn k a b))):=by
 have H:=Sep.aH w;obtain⟨res,ak⟩: ∃res,res=Kn k a b:=⟨_,rfl⟩;rw[<-ak];unfold Kn at ak;refine AJ func266 ?_;refine Sr (bB H (h:=λb1 _ S _=>?_));refine bB S (h:=λb3 _ _ _=>?_);refine Az (λb5 _ S _=>?_);refine Qn (dB (λz:Bool=>[(0,I k),(4,.pointer (some ⟨b1,0,none⟩)),(5,.pointer (some ⟨b3,0,none⟩)),(6,.pointer (some ⟨b5,0,none⟩)),(7,.bool z)]) (λz w'=>z=decide (a.null=true\/b.null=true)/\Sep w noB [blk b5 (ah cell0) 47,blk b3 (ah b) 47,blk b1 (ah a) 47] w') ?_ ?_)
 .refine V3 ?_
  refine dL (t:=12) rfl (λc=>?_) (λc=>?_)
  .refine V2 ?_
   exact au _ tR ⟨by simp[*],S⟩
  refine V4 ?_;exact au _ tR ⟨by simp[*],S⟩
 rintro nn τ c ⟨tX,c⟩;refine Lp ?_;refine dB (λz:Bool=>[(0,I k),(4,.pointer (some ⟨b1,0,none⟩)),(5,.pointer (some ⟨b3,0,none⟩)),(6,.pointer (some ⟨b5,0,none⟩)),(7,.bool nn),(8,.bool z)]) (λz w'=>z=decide (a.n=1\/b.n=1)/\Sep w noB [blk b5 (ah cell0) 47,blk b3 (ah b) 47,blk b1 (ah a) 47] w') ?_ ?_
 .refine Sz (λS=>?_) (λS=>?_)
  .refine V2 ?_
   exact au _ tR ⟨by simp[*],c⟩
  refine V5 ?_;exact au _ tR ⟨by simp[*],c⟩
 rintro n1 τ S ⟨AZ,S⟩;refine Lp ?_;refine dB (λz:Bool=>[(0,I k),(4,.pointer (some ⟨b1,0,none⟩)),(5,.pointer (some ⟨b3,0,none⟩)),(6,.pointer (some ⟨b5,0,none⟩)),(7,.bool nn),(8,.bool n1),(9,.bool z)]) (λz w'=>z=decide ((a.null=false/\a.n=0)\/(b.null=false/\b.n=0))/\Sep w noB [blk b5 (ah cell0) 47,blk b3 (ah b) 47,blk b1 (ah a) 47] w') ?_ ?_
 .refine V4 ?_
  refine dL (t:=27) rfl (λc=>?_) (λc=>?_)
  .refine Sz (λc=>?_) (λc=>?_)
   .refine V2 ?_
    exact au _ tR ⟨by first | (simp[*];done) | (simp_all;done),S⟩
   refine V4 ?_;refine dL (t:=36) rfl (λc=>?_) (λc=>?_)
   .refine V6 ?_
    exact au _ tR ⟨by first | (simp[*];done) | (simp_all;done),S⟩
   refine V3 ?_;exact au _ tR ⟨by first | (simp[*];done) | (simp_all;done),S⟩
  refine V6 ?_;refine dL (t:=36) rfl (λc=>?_) (λc=>?_)
  .refine V6 ?_
   exact au _ tR ⟨by first | (simp[*];done) | (simp_all;done),S⟩
  refine V3 ?_;exact au _ tR ⟨by first | (simp[*];done) | (simp_all;done),S⟩
 rintro n0 τ c ⟨zG,c⟩;have hres':res=if k=13/\n0=true then gY false else if k=14/\n1=true then gY true else if nn=true then bK else if k=15 then gY (decide (a.n=0))else gY (decide (k=13)):=by rw[ak,zG,AZ,tX];simp only[decide_eq_true_eq]
 clear ak zG AZ tX;refine Lp ?_;refine Sz (λc=>?_) (λc=>?_)
 .refine O3 ?_
  refine Qn (Cd rfl (λc=>?_) (λc=>?_))
  .refine Kz (iU _) (λ_ _ _=>?_)
   refine Tz (λ_ c=>?_);refine V0 ?_;refine⟨_,fG c,?_,c.kept⟩;show agg (ah _)=agg (ah res)
   (rw[hres'];simp[*])
  refine Sz (λc=>?_) (λc=>?_)
  .refine O3 ?_
   refine Qn (Cd rfl (λc=>?_) (λc=>?_))
   .refine Kz (iU _) (λ_ _ _=>?_)
    refine Tz (λ_ c=>?_);refine V0 ?_;refine⟨_,fG c,?_,c.kept⟩;show agg (ah _)=agg (ah res)
    (exfalso;omega)
   refine O2 ?_;refine Qn (Cd rfl (λc=>?_) (λc=>?_))
   .refine Sr (Vb (ah bK) ?_)
    refine Tz (λ_ c=>?_);refine V0 ?_;refine⟨_,fG c,?_,c.kept⟩;show agg (ah _)=agg (ah res)
    (exfalso;omega)
   refine Cz (λc=>?_) (λc=>?_)
   .refine Kz (iU _) (λ_ _ _=>?_)
    refine Tz (λ_ c=>?_);refine V0 ?_;refine⟨_,fG c,?_,c.kept⟩;show agg (ah _)=agg (ah res)
    (exfalso;omega)
   refine Kz (iU _) (λ_ _ _=>?_);refine Tz (λ_ c=>?_);refine V0 ?_;refine⟨_,fG c,?_,c.kept⟩;show agg (ah _)=agg (ah res)
   (exfalso;omega)
  refine O4 ?_;refine Qn (Cd rfl (λc=>?_) (λc=>?_))
  .refine Sr (Vb (ah bK) ?_)
   refine Tz (λ_ c=>?_);refine V0 ?_;refine⟨_,fG c,?_,c.kept⟩;show agg (ah _)=agg (ah res)
   (rw[hres'];simp[*])
  refine Cz (λc=>?_) (λc=>?_)
  .refine Kz (iU _) (λ_ _ _=>?_)
   refine Tz (λ_ c=>?_);refine V0 ?_;refine⟨_,fG c,?_,c.kept⟩;show agg (ah _)=agg (ah res)
   (exfalso;omega)
  refine Kz (iU _) (λ_ _ _=>?_);refine Tz (λ_ c=>?_);refine V0 ?_;refine⟨_,fG c,?_,c.kept⟩;show agg (ah _)=agg (ah res)
  (rw[hres'];simp[*])
 refine Sz (λc=>?_) (λc=>?_)
 .refine O3 ?_
  refine Qn (Cd rfl (λc=>?_) (λc=>?_))
  .refine Kz (iU _) (λ_ _ _=>?_)
   refine Tz (λ_ c=>?_);refine V0 ?_;refine⟨_,fG c,?_,c.kept⟩;show agg (ah _)=agg (ah res)
   (rw[hres'];simp[*])
  refine O2 ?_;refine Qn (Cd rfl (λc=>?_) (λc=>?_))
  .refine Sr (Vb (ah bK) ?_)
   refine Tz (λ_ c=>?_);refine V0 ?_;refine⟨_,fG c,?_,c.kept⟩;show agg (ah _)=agg (ah res)
   (rw[hres'];simp[*])
  refine Cz (λc=>?_) (λc=>?_)
  .refine Kz (iU _) (λ_ _ _=>?_)
   refine Tz (λ_ c=>?_);refine V0 ?_;refine⟨_,fG c,?_,c.kept⟩;show agg (ah _)=agg (ah res)
   (exfalso;omega)
  refine Kz (iU _) (λ_ _ _=>?_);refine Tz (λ_ c=>?_);refine V0 ?_;refine⟨_,fG c,?_,c.kept⟩;show agg (ah _)=agg (ah res)
  (rw[hres'];simp[*])
 refine O4 ?_;refine Qn (Cd rfl (λc=>?_) (λc=>?_))
 .refine Sr (Vb (ah bK) ?_)
  refine Tz (λ_ c=>?_);refine V0 ?_;refine⟨_,fG c,?_,c.kept⟩;show agg (ah _)=agg (ah res)
  (rw[hres'];simp[*])
 refine Cz (λc=>?_) (λc=>?_)
 .refine Kz (iU _) (λ_ _ _=>?_)
  refine Tz (λ_ c=>?_);refine V0 ?_;refine⟨_,fG c,?_,c.kept⟩;show agg (ah _)=agg (ah res)
  (rw[hres'];simp[*])
 refine Kz (iU _) (λ_ _ _=>?_);refine Tz (λ_ c=>?_);refine V0 ?_;refine⟨_,fG c,?_,c.kept⟩;show agg (ah _)=agg (ah res)
 (rw[hres'];simp[*])
end
def DY (n:Int):Option aC:=if aY n=true then some ⟨false,n,[]⟩else none
def lq (k:Int) (a b:aC):Option aC:=
 if k=13\/k=14\/k=15 then some (Kn k a b)
 else if k=16 then some (gY a.null)
 else if k=17 then some (if a.null=true then b else a)
 else if a.null=true\/b.null=true then some bK
 else if k=7 then DY (a.n+b.n)
 else if k=8 then DY (a.n-b.n)
 else if k=9 then DY (a.n*b.n)
 else if k=10 then DY (-a.n)
 else if k=11 then some (gY (decide (a=b)))
 else if k=12 then some (gY (decide (nG a b<0)))
 else some ⟨false,a.s.length,[]⟩
def afM {ok:Bool} (h1:ok=res.isSome) (h2: ∀y,res=some y->c=y): ∃t',Value.tuple #[agg (ah c),.bool ok]=.tuple #[agg (ah t'),.bool res.isSome]/\∀x,res=some x->t'=x:=
 ⟨c,by rw[h1],h2⟩
def dQ (h:res=some c): ∃t',Value.tuple #[agg (ah c),.bool true]=.tuple #[agg (ah t'),.bool res.isSome]/\∀x,res=some x->t'=x:=
 afM (by rw[h];rfl) (λy hy=>by rw[h]at hy;injection hy)
def fV {n c:Int} {ok:Bool} (h:res=DY n) (h1:ok=aY n) (h2:aY n=true->c=n): ∃t',Value.tuple #[agg (ah ⟨false,c,[]⟩),.bool ok]=.tuple #[agg (ah t'),.bool res.isSome]/\∀x,res=some x->t'=x:=by
 subst h h1;unfold DY;cases hf:aY n with
 | false=>exact⟨_,rfl,λy hy=>by cases hy⟩
 | true=>exact⟨_,rfl,λy hy=>by rw[h2 hf];injection hy⟩
attribute [local irreducible] nG
section
variable {w:Wd}
theorem OZ (k:Int) (a b:aC) (ha:fits a.n) (hb:fits b.n) (hs:a.s.length<=9223372036854775807):aQ Tryz.prog 182 [I k,agg (ah a),agg (ah b)] w λv w'=>(∃c,v=.tuple #[agg (ah c),.bool (lq k a b).isSome]/\∀y,lq k a b=some y->c=y)/\Kept noB w w':=by
 have H:=Sep.aH w;have Zj:=ha;obtain⟨Vj,Vz⟩:=ha;obtain⟨Fv,hb2⟩:=hb;obtain⟨res,ak⟩: ∃res,res=lq k a b:=⟨_,rfl⟩;rw[<-ak];unfold lq at ak;refine AJ Tryz.func182 ?_;refine Sr (bB H (h:=λb1 _ S _=>?_));refine bB S (h:=λb3 _ _ _=>?_);refine Az (λb5 _ S _=>?_);refine Cz (λd=>?_) (λd=>?_)
 .refine Sk (dV (zay Value.bool (zap d)) ?_)
  refine Kz (E9 k a b) (λ_ _ _=>?_);refine Tz (λ_ d=>?_);refine V1 ?_;exact⟨_,bF d,dQ (by rw[ak,zac oM]),d.kept⟩
 refine Cz (λd=>?_) (λd=>?_)
 .refine Sk (dV (zay Value.bool (zap d)) ?_)
  refine Kz (E9 k a b) (λ_ _ _=>?_);refine Tz (λ_ d=>?_);refine V1 ?_;exact⟨_,bF d,dQ (by rw[ak,zac oM]),d.kept⟩
 refine Cz (λd=>?_) (λd=>?_)
 .refine Kz (E9 k a b) (λ_ _ _=>?_)
  refine Tz (λ_ d=>?_);refine V1 ?_;exact⟨_,bF d,dQ (by rw[ak,zac oM]),d.kept⟩
 refine Cz (λd=>?_) (λd=>?_)
 .refine Kz (iU _) (λ_ _ _=>?_)
  refine Tz (λ_ d=>?_);refine V1 ?_;exact⟨_,bF d,dQ (by rw[ak,zaa oM,zac oM]),d.kept⟩
 refine Cz (λd=>?_) (λd=>?_)
 .refine O2 ?_
  refine Qn (Cd rfl (λd=>?_) (λd=>?_))
  .refine Tz (λ_ d=>?_)
   refine V1 ?_;exact⟨_,bF d,dQ (by rw[ak,zaa oM,zaa oM,zac oM,zac (by assumption)]),d.kept⟩
  refine Tz (λ_ d=>?_);refine V1 ?_;exact⟨_,bF d,dQ (by rw[ak,zaa oM,zaa oM,zac oM,zaa (by simp[*])]),d.kept⟩
 refine V3 ?_;refine dL (t:=32) rfl (λd=>?_) (λd=>?_)
 .refine V1 ?_
  refine Vb (ah bK) ?_;refine Tz (λ_ d=>?_);refine V1 ?_;exact⟨_,bF d,dQ (by rw[ak,zaa oM,zaa oM,zaa oM,zac (by simp[*])]),d.kept⟩
 refine O3 ?_;refine Qn (Cd rfl (λd=>?_) (λd=>?_))
 .refine Sr (Vb (ah bK) ?_)
  refine Tz (λ_ d=>?_);refine V1 ?_;exact⟨_,bF d,dQ (by rw[ak,zaa oM,zaa oM,zaa oM,zac (by simp[*])]),d.kept⟩
 have tX: ¬(a.null=true\/b.null=true):=by simp[*]
 rw[zaa oM,zaa oM,zaa oM,zaa tX]at ak;refine Cz (λd=>?_) (λd=>?_)
 .rw[zac d]at ak
  refine V4 ?_;refine eG (YK a.n b.n ⟨Vj,Vz⟩ ⟨Fv,hb2⟩) (h:=?_);refine V6 ?_;refine Vb (ah ⟨false,if aY (a.n+b.n)=true then a.n+b.n else 0,[]⟩) ?_;refine Mv ?_;refine Tz (λ_ e=>?_);refine V1 ?_
  first
  | exact⟨_,bF e,fV (n:=a.n+b.n) ak rfl (λh=>zac h),e.kept⟩
  | exact⟨_,bF e,fV (n:=a.n-b.n) ak (by rw[zdl]) (λh=>by rw[zdl]at h ⊢;exact zac h),e.kept⟩
  | exact⟨_,bF e,fV (n:=a.n*b.n) ak rfl Zk,e.kept⟩
  | exact⟨_,bF e,fV (n:= -a.n) ak (by rw[show -a.n=a.n* -1 from oM]) (λh=>by rw[show -a.n=a.n* -1 from oM]at h ⊢;exact Zk h),e.kept⟩
  | exact⟨_,bF e,dQ ak,e.kept⟩
 rw[zaa d]at ak;refine Cz (λe=>?_) (λe=>?_)
 .rw[zac e]at ak
  refine Cz (λd=>?_) (λd=>?_)
  .refine Dz (λd _ f=>?_)
   refine V2 ?_;refine Gp d 2 rfl rfl (λ_=>(Gives.abp (c:=IntKind.i64.wrap (a.n+1)) rfl rfl rfl)) (Gp d 3 rfl rfl (λ_=>(Gives.abp (c:=IntKind.i64.wrap (IntKind.i64.wrap (a.n+1)+9223372036854775807)) rfl rfl rfl)) ?_);refine Gb d 4 (ah ⟨false,IntKind.i64.wrap (IntKind.i64.wrap (a.n+1)+9223372036854775807),[]⟩) ?_;refine V3 ?_;refine bM d 8 [(7,true),(6,false),(5,true)] f (h:=λ_ f=>⟨sL,?_⟩);refine V1 ?_;exact⟨_,bF f,fV (n:=a.n-b.n) ak (by unfold aY;rw[zbf];omega) (λh=>by have:=zbd h;rw[IntKind.wrap_i64,IntKind.wrap_i64];omega),f.kept⟩
  refine V4 ?_;refine Vv (Gives.ak9 (c:= -b.n) rfl (by rw[wrap64 oM];omega)) ?_;refine eG (YK a.n (-b.n) ⟨Vj,Vz⟩ ⟨oM,oM⟩) (h:=?_);refine V6 ?_;refine Vb (ah ⟨false,if aY (a.n+ -b.n)=true then a.n+ -b.n else 0,[]⟩) ?_;refine Mv ?_;refine Tz (λ_ f=>?_);refine V1 ?_
  first
  | exact⟨_,bF f,fV (n:=a.n+b.n) ak rfl (λh=>zac h),f.kept⟩
  | exact⟨_,bF f,fV (n:=a.n-b.n) ak (by rw[zdl]) (λh=>by rw[zdl]at h ⊢;exact zac h),f.kept⟩
  | exact⟨_,bF f,fV (n:=a.n*b.n) ak rfl Zk,f.kept⟩
  | exact⟨_,bF f,fV (n:= -a.n) ak (by rw[show -a.n=a.n* -1 from oM]) (λh=>by rw[show -a.n=a.n* -1 from oM]at h ⊢;exact Zk h),f.kept⟩
  | exact⟨_,bF f,dQ ak,f.kept⟩
 rw[zaa e]at ak;refine Cz (λf=>?_) (λf=>?_)
 .rw[zac f]at ak
  refine V4 ?_;refine aL (G7 a.n b.n Zj ⟨Fv,hb2⟩) rfl rfl (λv' _ hv=>?_);obtain⟨⟨cp,rfl,Zk⟩,cK⟩:=hv;have e:=S.keep cK;refine V6 ?_;refine Vb (ah ⟨false,cp,[]⟩) ?_;refine Mv ?_;refine Tz (λ_ e=>?_);refine V1 ?_
  first
  | exact⟨_,bF e,fV (n:=a.n+b.n) ak rfl (λh=>zac h),e.kept⟩
  | exact⟨_,bF e,fV (n:=a.n-b.n) ak (by rw[zdl]) (λh=>by rw[zdl]at h ⊢;exact zac h),e.kept⟩
  | exact⟨_,bF e,fV (n:=a.n*b.n) ak rfl Zk,e.kept⟩
  | exact⟨_,bF e,fV (n:= -a.n) ak (by rw[show -a.n=a.n* -1 from oM]) (λh=>by rw[show -a.n=a.n* -1 from oM]at h ⊢;exact Zk h),e.kept⟩
  | exact⟨_,bF e,dQ ak,e.kept⟩
 rw[zaa f]at ak;refine Cz (λe=>?_) (λe=>?_)
 .rw[zac e]at ak
  refine V2 ?_;refine aL (G7 a.n (-1) Zj ⟨dC,dC⟩) rfl rfl (λv' _ hv=>?_);obtain⟨⟨cp,rfl,Zk⟩,cK⟩:=hv;have f:=S.keep cK;refine V6 ?_;refine Vb (ah ⟨false,cp,[]⟩) ?_;refine Mv ?_;refine Tz (λ_ f=>?_);refine V1 ?_
  first
  | exact⟨_,bF f,fV (n:=a.n+b.n) ak rfl (λh=>zac h),f.kept⟩
  | exact⟨_,bF f,fV (n:=a.n-b.n) ak (by rw[zdl]) (λh=>by rw[zdl]at h ⊢;exact zac h),f.kept⟩
  | exact⟨_,bF f,fV (n:=a.n*b.n) ak rfl Zk,f.kept⟩
  | exact⟨_,bF f,fV (n:= -a.n) ak (by rw[show -a.n=a.n* -1 from oM]) (λh=>by rw[show -a.n=a.n* -1 from oM]at h ⊢;exact Zk h),f.kept⟩
  | exact⟨_,bF f,dQ ak,f.kept⟩
 rw[zaa e]at ak;refine Cz (λf=>?_) (λf=>?_)
 .rw[zac f]at ak
  refine V2 ?_;refine Vv (Gives.afd (enc:=ah) _ _ rfl rfl) (Kz (iU _) (λ_ _ _=>?_));refine Tz (λ_ e=>?_);refine V1 ?_;exact⟨_,bF e,dQ ak,e.kept⟩
 rw[zaa f]at ak;refine Cz (λe=>?_) (λe=>?_)
 .rw[zac e]at ak
  refine Kz (Lb _ _) (λ_ _ _=>?_);refine Vl ?_;refine Kz (iU _) (λ_ _ _=>?_);refine Tz (λ_ f=>?_);refine V1 ?_;exact⟨_,bF f,dQ ak,f.kept⟩
 rw[zaa e]at ak;refine V5 ?_;refine Vb (ah ⟨false,(a.s.length:Int),[]⟩) ?_;refine Mv ?_;refine Tz (λ_ f=>?_);refine V1 ?_
 first
 | exact⟨_,bF f,fV (n:=a.n+b.n) ak rfl (λh=>zac h),f.kept⟩
 | exact⟨_,bF f,fV (n:=a.n-b.n) ak (by rw[zdl]) (λh=>by rw[zdl]at h ⊢;exact zac h),f.kept⟩
 | exact⟨_,bF f,fV (n:=a.n*b.n) ak rfl Zk,f.kept⟩
 | exact⟨_,bF f,fV (n:= -a.n) ak (by rw[show -a.n=a.n* -1 from oM]) (λh=>by rw[show -a.n=a.n* -1 from oM]at h ⊢;exact Zk h),f.kept⟩
 | exact⟨_,bF f,dQ ak,f.kept⟩
end
end
section
def okC (t:bR) (c:aC):Prop:=gL t c=0
def l9:okC t c↔(oD t=true/\((c.null=true/\t.null=true/\c=bK)\/(c.null=false/\isC t.kind c=true))):=by
 unfold okC gL;cases hm:oD t
 .simp
 cases hn:c.null
 .cases hi:isC t.kind c<;>simp
 by_cases h:t.null=true/\c=bK
 .simp[h]
 simp[h]
def YN (h:oD t=true):1<=t.kind/\t.kind<=5:=zbd h
def AY (h:1<=t.kind/\t.kind<=5):oD t=true:=zap h
def zC (h:1<=k/\k<=5):okC ⟨k,true⟩ bK:=l9.2 ⟨AY h,.inl ⟨rfl,rfl,rfl⟩⟩
def zD (n:Bool) (b:Bool):okC ⟨1,n⟩ (gY b):=l9.2 ⟨AY (show(1:Int)<=1/\(1:Int)<=5 from dC),.inr ⟨by cases b<;>rfl,by cases b<;>rfl⟩⟩
def Vd (n:Bool) (i:Int):okC ⟨3,n⟩ ⟨false,i,[]⟩:=l9.2 ⟨AY (show(1:Int)<=3/\(3:Int)<=5 from dC),.inr ⟨rfl,by simp[isC]⟩⟩
def O8 (h:okC t c) (hk:t.kind=1):(c=bK/\t.null=true)\/c=gY false\/c=gY true:=by
 rcases (l9.1 h).2 with⟨_,h2,h3⟩ | ⟨h1,h2⟩
 .exact .inl ⟨h3,h2⟩
 right
 rw[hk]at h2;unfold isC at h2;rw[zac rfl]at h2;obtain⟨h3,h4,h5⟩:=zbd h2
 by_cases h0:c.n=0
 .left;exact aC.ext' h1 h0 h3
 right;exact aC.ext' h1 (show c.n=1 from oM) h3
def Pb (h:okC t c):c.s.length<=1024:=by
 rcases (l9.1 h).2 with⟨_,_,h3⟩ | ⟨h1,h2⟩
 .rw[h3];simp[bK]
 unfold isC at h2
 repeat' split at h2
 all_goals first
  | (have:=zbd h2;omega)
  | (have h3:=zbd h2;first | (rw[h3.1];simp) | (rw[h3];simp))
def CO (h:okC t c) (hn:c.null=true):t.null=true/\c=bK:=by
 rcases (l9.1 h).2 with⟨_,h2,h3⟩ | ⟨h1,h2⟩
 .exact⟨h2,h3⟩
 rw[h1]at hn;cases hn
def ala {t':bR} (h:okC t c) (hk:t'.kind=t.kind) (hn:t.null=true->t'.null=true):okC t' c:=by
 obtain⟨h1,h2⟩:=l9.1 h;refine l9.2 ⟨AY (by rw[hk];exact YN h1),?_⟩
 rcases h2 with⟨a,b,d⟩ | ⟨a,b⟩
 .exact .inl ⟨a,hn b,d⟩
 exact .inr ⟨a,by rw[hk];exact b⟩
def YO {a b:aC} (h:a.null=b.null):nG a b=0↔a=b:=by
 constructor
 .intro e
  unfold nG at e;rw[zac h]at e
  split at e
  .cases e
  split at e
  .cases e
  exact aC.ext' h oM (OQ e)
 rintro rfl;unfold nG;rw[zac rfl,zaa (Int.lt_irrefl _),zaa (Int.lt_irrefl _),OT]
def aiS {tb:bR} (ha:okC ta a) (hb:okC tb b) (hka:ta.kind=1) (hkb:tb.kind=1) (hk:k=13\/k=14\/k=15):Kn k a b=vX k a b:=by
 rcases O8 ha hka with⟨rfl,_⟩ | rfl | rfl<;>rcases O8 hb hkb with⟨rfl,_⟩ | rfl | rfl<;>rcases hk with rfl | rfl | rfl<;>decide
def aiT {tb:bR} (ha:okC ta a) (hb:okC tb b) (hka:ta.kind=1) (hkb:tb.kind=1):okC ⟨1,ta.null||tb.null⟩ (vX k a b):=by
 unfold vX
 repeat' split
 .exact zD _ _
 .exact zD _ _
 .rename_i h
  have :(ta.null||tb.null)=true:=by
   rcases h with h | h
   .rw[(CO ha (by rw[h];rfl)).1];rfl
   rw[(CO hb (by rw[h];rfl)).1];simp
  rw[this];exact zC ⟨dC,dC⟩
 .exact zD _ _
 exact zD _ _
def Vg {tb:bR} (ha:okC ta a) (hb:okC tb b) (h:a.null=true\/b.null=true):(ta.null||tb.null)=true:=by
 rcases h with h | h
 .rw[(CO ha h).1];rfl
 rw[(CO hb h).1];simp
def anp {tb:bR} {n:Int} (ha:okC ta a) (hb:okC tb b): ∀c,(if a.null=true\/b.null=true then some bK else DY n)=some c->okC ⟨3,ta.null||tb.null⟩ c/\fits c.n:=by
 intro c hc
 split at hc
 .rename_i h
  injection hc with hc
  subst hc;rw[Vg ha hb h];exact⟨zC dC,dC,dC⟩
 unfold DY at hc
 split at hc
 .rename_i hf
  injection hc with hc
  subst hc;have h: -9223372036854775808<=n/\n<=9223372036854775807:=zbd hf;exact⟨Vd _ _,h⟩
 cases hc
def Ko (b:Bool):fits (gY b).n:=by cases b<;>exact⟨dC,dC⟩
def ac0 {tb:bR} {f:Bool} (ha:okC ta a) (hb:okC tb b): ∀c,(if a.null=true\/b.null=true then some bK else some (gY f))=some c->okC ⟨1,ta.null||tb.null⟩ c/\fits c.n:=by
 intro c hc
 split at hc
 .rename_i h
  injection hc with hc
  subst hc;rw[Vg ha hb h];exact⟨zC dC,dC,dC⟩
 injection hc with hc
 subst hc;exact⟨zD _ _,Ko _⟩
def abq:fits (vX k a b).n:=by
 unfold vX
 repeat' split
 all_goals first | exact Ko _ | exact⟨dC,dC⟩
theorem abr {tb:bR} (hk:7<=k/\k<=18) (ht:vW k ta tb=some t) (ha:okC ta a) (hb:okC tb b) (hfa:fits a.n) (hfb:fits b.n):
    lq k a b=jl k a b/\∀c,jl k a b=some c->okC t c/\fits c.n:=by
  have hc:k=7\/k=8\/k=9\/k=10\/k=11\/k=12\/k=13\/k=14\/k=15\/k=16\/k=17\/k=18:=oM
  have alH: ∀n:Int,lq k a b=(if a.null=true\/b.null=true then some bK else DY n)->jl k a b=(if a.null=true\/b.null=true then some bK else DY n)->(if ta.kind=3/\tb.kind=3 then some (⟨3,ta.null||tb.null⟩:bR)else none)=some t->lq k a b=jl k a b/\∀c,jl k a b=some c->okC t c/\fits c.n:=by
    intro n h1 h2 h3;rw[h1,h2]
    split at h3
    . injection h3 with h3
      subst h3;exact⟨rfl,anp ha hb⟩
    cases h3
  have aoc:(k=13\/k=14\/k=15)->(if ta.kind=1/\tb.kind=1 then some (⟨1,ta.null||tb.null⟩:bR)else none)=some t->lq k a b=jl k a b/\∀c,jl k a b=some c->okC t c/\fits c.n:=by
    intro h1 h3
    split at h3
    . rename_i cK
      injection h3 with h3
      subst h3;have e1:lq k a b=some (Kn k a b):=zac h1;have e2:jl k a b=some (vX k a b):=zac h1;rw[e1,e2,aiS ha hb cK.1 cK.2 h1];refine⟨rfl,λc hc=>?_⟩;injection hc with hc
      subst hc;exact⟨aiT ha hb cK.1 cK.2,abq⟩
    cases h3
  rcases hc with rfl | rfl | rfl | rfl | rfl | rfl | rfl | rfl | rfl | rfl | rfl | rfl
  . exact alH (a.n+b.n) (by unfold lq;simp) (by unfold jl DY;simp) ht
  . exact alH (a.n-b.n) (by unfold lq;simp) (by unfold jl DY;simp) ht
  . exact alH (a.n*b.n) (by unfold lq;simp) (by unfold jl DY;simp) ht
  . exact alH (-a.n) (by unfold lq;simp) (by unfold jl DY;simp) ht
  . have e2:jl 11 a b=(if a.null=true\/b.null=true then some bK else some (gY (decide (nG a b=0)))):=by unfold jl;simp
    have e1:lq 11 a b=(if a.null=true\/b.null=true then some bK else some (gY (decide (a=b)))):=by unfold lq;simp
    have h3:(if ta.kind=tb.kind then some (⟨1,ta.null||tb.null⟩:bR)else none)=some t:=ht
    split at h3
    . injection h3 with h3
      subst h3;refine⟨?_,by rw[e2];exact ac0 ha hb⟩;rw[e1,e2]
      split
      . rfl
      rename_i hn;have hz:=YO (a:=a) (b:=b) (by cases h1:a.null<;>cases h2:b.null<;>simp[h1,h2]at hn ⊢);simp only[hz]
    cases h3
  . have e2:jl 12 a b=(if a.null=true\/b.null=true then some bK else some (gY (decide (nG a b<0)))):=by unfold jl;simp
    have e1:lq 12 a b=(if a.null=true\/b.null=true then some bK else some (gY (decide (nG a b<0)))):=by unfold lq;simp
    have h3:(if ta.kind=tb.kind then some (⟨1,ta.null||tb.null⟩:bR)else none)=some t:=ht
    split at h3
    . injection h3 with h3
      subst h3;exact⟨by rw[e1,e2],by rw[e2];exact ac0 ha hb⟩
    cases h3
  . exact aoc dC ht
  . exact aoc dC ht
  . exact aoc dC ht
  . have e1:lq 16 a b=some (gY a.null):=by unfold lq;simp
    have e2:jl 16 a b=some (gY a.null):=by unfold jl;simp
    have h3:some (⟨1,false⟩:bR)=some t:=ht;injection h3 with h3
    subst h3;rw[e1,e2];refine⟨rfl,λc hc=>?_⟩;injection hc with hc
    subst hc;exact⟨zD _ _,Ko _⟩
  . have e1:lq 17 a b=some (if a.null=true then b else a):=by unfold lq;simp
    have e2:jl 17 a b=some (if a.null=true then b else a):=by unfold jl;simp
    have h3:(if ta.kind=tb.kind then some (⟨ta.kind,ta.null&&tb.null⟩:bR)else none)=some t:=ht
    split at h3
    . rename_i cK
      injection h3 with h3
      subst h3;rw[e1,e2];refine⟨rfl,λc hc=>?_⟩;injection hc with hc
      subst hc
      split
      . rename_i hn
        exact⟨ala hb cK (λh=>by show(ta.null&&tb.null)=true;rw[(CO ha hn).1,h];rfl),hfb⟩
      rename_i hn;refine⟨l9.2 ⟨AY (YN (l9.1 ha).1),.inr ?_⟩,hfa⟩
      rcases (l9.1 ha).2 with⟨h1,_⟩ | h2
      . exact zas h1 hn
      exact h2
    cases h3
  have e1:lq 18 a b=(if a.null=true\/b.null=true then some bK else some ⟨false,a.s.length,[]⟩):=by unfold lq;simp
  have e2:jl 18 a b=(if a.null=true\/b.null=true then some bK else some ⟨false,a.s.length,[]⟩):=by unfold jl;simp
  have h3:(if ta.kind=4\/ta.kind=5 then some (⟨3,ta.null||tb.null⟩:bR)else none)=some t:=ht
  split at h3
  . injection h3 with h3
    subst h3;rw[e1,e2];refine⟨rfl,λc hc=>?_⟩
    split at hc
    . rename_i h
      injection hc with hc
      subst hc;rw[Vg ha hb h];exact⟨zC dC,dC,dC⟩
    injection hc with hc
    subst hc;have:=Pb ha;exact⟨Vd _ _,by show(-9223372036854775808:Int)<=a.s.length;omega,by show(a.s.length:Int)<=9223372036854775807;omega⟩
  cases h3

section
variable {w:Wd}
end
def afN (s:L8):(vV s).length<=6*s.length+2:=by
 have h:=Cw (f:=jF) (k:=6) (λc=>by unfold jF;(repeat' split)<;>simp) s;unfold vV;simp only[zaq,zad,zcd];omega
def aiU (h:7<=k) (h2:k<=18):lW[(k-7).toNat]? =some (lW.getD (k-7).toNat []):=by
 rw[zaz];have :(k-7).toNat<lW.length:=by show _<12;omega
 rw[zab this];rfl
section
variable {w:Wd}
end
def uJ {α:Type} {l:List α} {p:α->Bool} {j:Nat} {x:α} (h: ∀(i:Nat) y,i<j->l[i]? =some y->p y=false) (hj:l[j]? =some x) (hp:p x=true):l.findIdx? p=some j:=by
 rw[zcw];obtain⟨h1,h2⟩:=zax.1 hj;refine⟨h1,by rw[h2];exact hp,λi hi=>?_⟩;rw[h i _ hi (zab oM)];simp
def qX {α:Type} {l:List α} {p:α->Bool} (h: ∀(i:Nat) y,l[i]? =some y->p y=false):l.findIdx? p=none:=by
 rw[zda];intro x hx;obtain⟨i,hi⟩:=zdd hx;exact h i x hi
def YP {x:bL} (h:dU x=true) (hf:fits x.n):(gX x).length<=6146:=(OJ h hf.1 hf.2).1
attribute [local irreducible] dU gX
section
variable {w:Wd}
end
end
section
attribute [local irreducible] U6 dU gX
section
variable {w:Wd}
end
end
section
def Vh (s:L8) (c:UInt8):s.count c<=s.length:=List.count_le_length
attribute [local irreducible] dU gX cB readAll
section
variable {w:Wd}
end
end
def jA (r:List aC):Prop:=∀c∈r,fits c.n
def abt (h:fM cols r=0):cols.length=r.length/\∀(i:Nat) a c,cols[i]? =some a->r[i]? =some c->okC a.type c:=by
  have hl:cols.length=r.length:=by
    refine Classical.byContradiction λhn=>?_;unfold fM at h;rw[zac hn]at h;cases h
  refine⟨hl,λi a c ha hc=>?_⟩
  have key: ∀j,qW cols r j=0->∀i,j<=i->qW cols r i=0:=by
    intro j hj i hi
    induction i with
    | zero=>
     have :j=0:=oM;subst this;exact hj
    | succ i ih=>
      by_cases hji:j=i+1
      . rw[<-hji];exact hj
      have h0:=ih oM
      rcases zdo i r.length with aX | hge
      . obtain⟨c,hc⟩:=get_some aX
        obtain⟨a,ha⟩:=get_some (l:=cols) (i:=i) oM;rw[yh ha hc]at h0
        split at h0
        . rename_i h1;exact zas h0 h1
        exact h0
      exact E8 oM
  have h0:=key 0 (by rw[<-CG hl];exact h) i (zai _);rw[yh ha hc]at h0
  split at h0
  . rename_i h1;exact zas h0 h1
  rename_i h1;exact Classical.byContradiction λhn=>h1 hn
def xg (cols:List bT) (r:List aC) (x:bL):aC:=if x.kind=1 then r.getD ((oF cols x.n).getD 0) cell0 else if x.kind=6 then bK else⟨false,x.n,x.s⟩
def abu {x:bL} (hr:fM cols r=0) (hf:jA r) (hx:fits x.n) (hm:dU x=true) (hk:x.kind<7) (ht:qU cols x=some t):okC t (xg cols r x)/\fits (xg cols r x).n:=by
 obtain⟨hl,fB⟩:=abt hr
 have cK:1<=x.kind:=by
  unfold dU at hm
  repeat' split at hm
  all_goals first | omega | (have:=zbd hm;omega)
 unfold xg;unfold qU at ht;unfold dU at hm
 by_cases h1:x.kind=1
 .rw[zac h1]at ht |-
  cases yK:oF cols x.n with
  | none=>rw[yK]at ht;cases ht
  | some i=>
   rw[yK]at ht;have aX:=G6 yK;obtain⟨a,ha⟩:=get_some aX;obtain⟨c,hc⟩:=get_some (l:=r) (i:=i) oM;have hgd:cols.getD i ⟨0,[],gW,cell0⟩=a:=jy ha;simp only[zdg,hgd]at ht ⊢;rw[jy hc];have hac:=fB i a c ha hc;have hfx:fits c.n:=hf c (zag hc)
   split at ht
   .cases ht
   injection ht with ht
   subst ht
   split
   .rename_i h2
    refine⟨?_,hfx⟩
    rcases (l9.1 hac).2 with⟨b1,b2,b3⟩ | ⟨b1,b2⟩
    .rw[b2,b3];exact zC dC
    rw[h2]at b2;unfold isC at b2;rw[zaa dC,zac rfl]at b2;have b3:=zbd b2;exact l9.2 ⟨AY (show(1:Int)<=3/\(3:Int)<=5 from dC),.inr ⟨b1,by simp[isC,b3.1]⟩⟩
   exact⟨hac,hfx⟩
 rw[zaa h1]at ht hm |-
 by_cases h2:x.kind=2
 .rw[zac h2]at ht hm
  rw[zaa oM];injection ht with ht
  subst ht;have hs:x.s=[]:=zbd hm;rw[hs];exact⟨Vd _ _,hx⟩
 rw[zaa h2]at ht hm
 by_cases h3:x.kind=3
 .rw[zac h3]at ht hm
  rw[zaa oM];injection ht with ht
  subst ht;have hs:=zbd hm;exact⟨l9.2 ⟨AY (show(1:Int)<=1/\(1:Int)<=5 from dC),.inr ⟨rfl,by simp[isC];exact hs⟩⟩,hx⟩
 rw[zaa h3]at ht hm
 by_cases h4:x.kind=4
 .rw[zac h4]at ht hm
  rw[zaa oM];injection ht with ht
  subst ht;have hs:=zbd hm;exact⟨l9.2 ⟨AY (show(1:Int)<=4/\(4:Int)<=5 from dC),.inr ⟨rfl,by simp[isC];exact hs⟩⟩,hx⟩
 rw[zaa h4]at ht hm
 by_cases h5:x.kind=5
 .rw[zac h5]at ht hm
  rw[zaa oM];injection ht with ht
  subst ht;have hs:=zbd hm;exact⟨l9.2 ⟨AY (show(1:Int)<=5/\(5:Int)<=5 from dC),.inr ⟨rfl,by simp[isC];exact hs⟩⟩,hx⟩
 rw[zaa h5]at ht hm;rw[zac oM]at hm;rw[zac oM];injection ht with ht
 subst ht;have hs:=zbd hm;exact⟨zC oM,dC,dC⟩
def Typed (ts:List bR) (st:List aC):Prop:=ts.length=st.length/\∀(i:Nat) t c,ts[i]? =some t->st[i]? =some c->okC t c/\fits c.n
def Typed.push {ts:List bR} {st:List aC} (h:Typed ts st) {m:Nat} {t:bR} {c:aC} (hm:m<=st.length) (hc:okC t c/\fits c.n):Typed (ts.take m++[t]) (st.take m++[c]):=by
 obtain⟨h1,h2⟩:=h;have e1:(ts.take m).length=m:=by rw[zah];omega
 have e2:(st.take m).length=m:=by rw[zah];omega
 refine⟨by simp[h1],λi t' c' ht hc'=>?_⟩
 rcases zdo i m with hi | hi
 .rw[zcl oM,zcu,zac hi]at ht hc'
  exact h2 i t' c' ht hc'
 rw[zby oM,e1]at ht;rw[zby oM,e2]at hc';cases hd:i-m with
 | zero=>
  rw[hd]at ht hc';simp at ht hc';rw[<-ht,<-hc'];exact hc
 | succ j=>rw[hd]at ht;simp at ht
def Typed.nil:Typed [] []:=⟨rfl,λi t c h=>by simp at h⟩
def anq {x:bL} (h:dU x=true):1<=x.kind/\x.kind<=18:=by
 unfold dU at h
 repeat' split at h
 all_goals first | omega | (have:=zbd h;omega)
def aiV (cols:List bT) (r:List aC) (st:List aC) (x:bL):Option aC:=
 if dI x.kind=0 then some (xg cols r x)else lq x.kind (st.getD (st.length-dI x.kind) cell0) (st.getD (st.length-1) cell0)
def CP (k:Int):dH k=0↔k<7:=by
 unfold dH
 repeat' split
 all_goals omega
def Pd {x:bL} {ts ts':List bR} {st:List aC} (hr:fM cols r=0) (hf:jA r) (hx:fits x.n) (hT:Typed ts st) (hs:stepT cols ts x=some ts'):
    acW cols r st x=(aiV cols r st x).map (λc=>st.take (st.length-dI x.kind)++[c])/\∀c,aiV cols r st x=some c->Typed ts' (st.take (st.length-dI x.kind)++[c])/\fits c.n:=by
  have mE:=λh=>CK (cols:=cols) (st:=ts) (x:=x) h
  have hm:dU x=true:=by
    cases h:dU x with
    | true=>rfl
    | false=>rw[mE (.inl h)]at hs;cases hs
  have rW:dI x.kind<=ts.length:=by
    refine Classical.byContradiction λh=>?_;rw[mE (.inr oM)]at hs;cases hs
  rw[Tk hm rW]at hs;obtain⟨t,ht,hts⟩:=zbc.1 hs;subst hts;have hlen:=hT.1;unfold resT at ht;unfold acW aiV;have yH:=DR hm;rw[<-yH];dsimp only
  by_cases h0:dI x.kind=0
  . rw[zac h0]at ht
    rw[zac h0,zac h0];have hl:=abu hr hf hx hm ((CP _).1 (by rw[<-yH];exact h0)) ht;refine⟨rfl,λc hc=>?_⟩;injection hc with hc
    subst hc;rw[hlen];exact⟨hT.push oM hl,hl.2⟩
  rw[zaa h0]at ht;rw[zaa h0,zaa h0]
  have hk7:7<=x.kind:=by
    refine Classical.byContradiction λh=>h0 ?_;rw[yH];exact(CP _).2 oM
  obtain⟨a,ha⟩:=get_some (l:=st) (i:=st.length-dI x.kind) oM;obtain⟨b,hb⟩:=get_some (l:=st) (i:=st.length-1) oM;obtain⟨ta,Zh⟩:=get_some (l:=ts) (i:=ts.length-dI x.kind) oM;obtain⟨tb,VA⟩:=get_some (l:=ts) (i:=ts.length-1) oM;rw[jy Zh,jy VA]at ht;rw[jy ha,jy hb];have oa:=hT.2 (st.length-dI x.kind) ta a (by rw[<-hlen];exact Zh) ha;have ob:=hT.2 (st.length-1) tb b (by rw[<-hlen];exact VA) hb;obtain⟨e1,e2⟩:=abr ⟨hk7,(anq hm).2⟩ ht oa.1 ob.1 oa.2 ob.2;rw[e1];refine⟨rfl,λc hc=>?_⟩;have:=e2 c hc;rw[hlen];exact⟨hT.push oM this,this.2⟩
end
end Go.Proofs.Mw
