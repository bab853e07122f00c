/-
 append onto a row that is full:the answer is new. Rows of numbers and of texts.
-/
import Derived.Test.YtjcgliljofbopaaGreatDoorNv8
set_option linter.all false
set_option maxRecDepth 4000
namespace Go.Proofs.Mw
variable {v z:Value} {x y:Od} {bytes d:Nat} {w:Wd} {A:OA}
open Go.RowKit
section
section
variable {α:Type} {enc:α->LV} {k e:Nat} {l news:List α} {A B:OA} {w w' w0:Wd} {S:NP} {rs:List HP}
def ahP {b s n:Nat} {xs:LV} (h:w.ownsRow b e s v n xs):w.ownsRow 0 e s v n xs:=by
 refine⟨h.1,?_⟩
 rcases h.2 with h2 | ⟨g,cap,cur,hv,_,r⟩
 .exact .inl h2
 exact .inr ⟨g,cap,cur,hv,zak _,r⟩
def Oo (h:w.grownBy w' none):Kept noB w w':=⟨h.os,h.tape,h.output,h.size,λk hk _=>h.block k hk λe=>by cases e⟩
def Pt {P:Program} {ρ:Od->Value} {ty:Td} {t c bytes:Nat} [hs:cO P t e] [hc:Cells P e k bytes] [hz:Zero P e z] [hk:je enc k]
    (H:Sep w0 S rs w) (hx:ρ x=.slice A l.length l.length) (hr:Rd w A enc k l) (hy:ρ y=.slice B news.length c) (Yq:Rd w B enc k news) (qy: ∀u∈news.flatMap enc,u.oneCell'=true)
    (y8:0<k) (D5:z.cells.size=k) (iN:0<news.length) (h63:l.length+news.length<=maxLen) (hbytes:(l.length+news.length)*bytes<=140737488355328):
    ∃v' w',Gives P ρ (.call {callee:=.builtin .append,args:= #[x,y],argTypes:= #[t,t]}) ty w v' w'/\Sep w0 S (aY e k enc v' (l++news)::rs) w'/\Kept noB w w':=by
  have fin: ∀v' w',(Builtin.append_ #[t,t] ty #[.slice A l.length l.length,.slice B news.length c]).run P w=.ok v' w'->w'.ownsRow 0 e k v' (l.length+news.length) (l.flatMap enc++news.flatMap enc)->Kept noB w w'->(∀b,v'.ownBlock=some b->w.heap.size<=b)->
      ∃v' w',Gives P ρ (.call {callee:=.builtin .append,args:= #[x,y],argTypes:= #[t,t]}) ty w v' w'/\Sep w0 S (aY e k enc v' (l++news)::rs) w'/\Kept noB w w':=by
    intro v' w' iq oq bZ hb;refine⟨v',w',λ_ _ _ _=>?_,H.new (F':=λb=>v'.ownBlock=some b) bZ ⟨?_,λb=>Iff.rfl⟩ hb,bZ⟩
    . simp only[execOp,resolve,invoke,builtin,zbi,zbl,zam,zcc,zav,zcl,hx,hy,iq]
    show w'.ownsRow 0 e k v' (l++news).length ((l++news).flatMap enc)
    rw[zad,zbt];exact oq
  cases A with
  | none=>
    have hl:l=[]:=by
      rcases zec l.length with h | h
      . exact zbg h
      obtain⟨ad,h1⟩:=hr.addr h;cases h1
    subst hl;obtain⟨v',w',iq,oq,hg,hb⟩:=uS (P:=P) (ty:=ty) t e y8 D5 (.slice none 0 0) 0 [] (World.ownsRow_nil w 0 e k) B news.length c (news.flatMap enc) Yq qy h63 hbytes;refine fin v' w' iq oq (Oo hg) λb Yf=>?_
    rcases hb with h | h
    . rw[h]at Yf;cases Yf
    rw[h]at Yf;injection Yf with Yf;omega
  | some ad=>
    obtain⟨i,hi,qx⟩:=zbc.1 hc.size;simp only[Prod.mk.injEq]at qx
    have vL:i.zero=some z:=by
      have:=hz.run w;simp[zeroValue,typeInfo,hi]at this;cases hq:i.zero with
      | none=>simp[hq]at this
      | some u=>simp[hq]at this;rw[this]
    obtain⟨bd,hB,OO⟩:=Yq.at_ iN;subst hB
    have hca: ∀j u,(l.flatMap enc)[j]? =some u->w.cell? (ad.add j)=some u:=by
      intro j u hu
      rcases zec l.length with h | h
      . have hn:=zbg h
        subst hn;simp at hu
      obtain⟨ad',h1,h2⟩:=hr.at_ h;injection h1 with h1
      subst h1;exact h2 j u hu
    obtain⟨v',w',iq,oq,hg⟩:=run_append_arg_grows (P:=P) w t ty e i z k bytes hs.und hi vL qx.1 qx.2 D5 y8 ad l.length l.length (l.flatMap enc) hr.len hca bd news.length c (news.flatMap enc) Yq.len OO oM h63 hbytes;exact fin v' w' iq (ahP oq) (Oo hg) λb hb=>(oq.lt b hb).1
end
section
variable {P:Program} {r:Option Nat} {n:Nat} {ops:AO} {Q:Post} {rest:LO} {σ:St} {w w' w0:Wd} {S:NP} {rs:List HP} {put:HP->List HP} {ty:Td} {pos:String} {after:Array Edge} {guard:Option (Nat×Bool)} {lv:List Bool} {pd:LNB} {α:Type} {enc:α->LV} {k e:Nat} {l news:List α} {A B:OA}
def Oq {t c:Nat} [hs:cO P t e] [hc:Cells P e k bytes] [hz:Zero P e z] [hk:je enc k]
    (H:Sep w0 S rs w) (hr:Rd w A enc k l) (Yq:Rd w B enc k news) (iN:0<news.length) (h63:l.length+news.length<=maxLen) (hbytes:(l.length+news.length)*bytes<=140737488355328) (qy: ∀u∈news.flatMap enc,u.oneCell'=true)
    (hx:evF σ x=.slice A l.length l.length:=by exact rfl) (hy:evF σ y=.slice B news.length c:=by exact rfl) (y8:0<k:=by decide) (D5:z.cells.size=k:=by exact rfl) (hd:Nat.blt d n=true:=by exact rfl)
    (h: ∀v' w',Sep w0 S (aY e k enc v' (l++news)::rs) w'->Kept noB w w'->FL P r n ops Q rest (upd σ d v') w'):
    FL P r n ops Q (⟨some d,.call {callee:=.builtin .append,args:= #[x,y],argTypes:= #[t,t]},ty,pos,after,none⟩::rest) σ w:=by
  obtain⟨v',w',hg,hs',bZ⟩:=Pt (P:=P) (t:=t) (ty:=ty) H hx hr hy Yq qy y8 D5 iN h63 hbytes;exact dw hg hd (h v' w' hs' bZ)
def DY {P:Program} {ρ:Od->Value} {ty:Td} {t c bytes:Nat} [hs:cO P t e] [hc:Cells P e k bytes] [hz:Zero P e z] [hk:je enc k]
    (H:Sep w0 S rs w) (hx:ρ x=v) (hy:ρ y=.slice B news.length c) (Yq:Rd w B enc k news) (hat:At rs (aY e k enc v l) put) (qy: ∀u∈news.flatMap enc,u.oneCell'=true)
    (y8:0<k) (D5:z.cells.size=k) (h63:l.length+news.length<=maxLen) (hbytes:(l.length+news.length)*bytes<=140737488355328):
    ∃v' w',Gives P ρ (.call {callee:=.builtin .append,args:= #[x,y],argTypes:= #[t,t]}) ty w v' w'/\Sep w0 S (put (aY e k enc v' (l++news))) w':=by
  obtain⟨v',w',hg,h2⟩:=zQ (P:=P) (t:=t) (ty:=ty) H hx hy hat Yq qy y8 D5 h63 hbytes;refine⟨v',w',hg,?_⟩;have e:aY e k enc v' (l++news)=uR e k v' (l.length+news.length) (l.flatMap enc++news.flatMap enc):=by unfold aY;rw[zad,zbt]
  rw[e];exact h2
def mU {t c:Nat} [hs:cO P t e] [hc:Cells P e k bytes] [hz:Zero P e z] [hk:je enc k]
    (H:Sep w0 S rs w) (hat:At rs (aY e k enc v l) put) (Yq:Rd w B enc k news) (h63:l.length+news.length<=maxLen) (hbytes:(l.length+news.length)*bytes<=140737488355328) (qy: ∀u∈news.flatMap enc,u.oneCell'=true)
    (hx:evF σ x=v:=by exact rfl) (hy:evF σ y=.slice B news.length c:=by exact rfl) (y8:0<k:=by decide) (D5:z.cells.size=k:=by exact rfl) (hd:Nat.blt d n=true:=by exact rfl)
    (h: ∀v' w',Sep w0 S (put (aY e k enc v' (l++news))) w'->FL P r n ops Q rest (upd σ d v') w'):
    FL P r n ops Q (⟨some d,.call {callee:=.builtin .append,args:= #[x,y],argTypes:= #[t,t]},ty,pos,after,none⟩::rest) σ w:=by
  obtain⟨v',w',hg,hs'⟩:=DY (P:=P) (t:=t) (ty:=ty) H hx hy Yq hat qy y8 D5 h63 hbytes;exact dw hg hd (h v' w' hs')
def yZ (eZ:dS n ops=true) (i:Nat) (pd':LNB) {t c bytes:Nat} [hs:cO P t e] [hc:Cells P e k bytes] [hz:Zero P e z] [hk:je enc k]
    (H:Sep w0 S rs w) (hat:At rs (aY e k enc v l) put) (Yq:Rd w B enc k news) (h63:l.length+news.length<=maxLen) (hbytes:(l.length+news.length)*bytes<=140737488355328) (qy: ∀u∈news.flatMap enc,u.oneCell'=true)
    (ho:ops[i]? =some ⟨some d,.call {callee:=.builtin .append,args:= #[x,y],argTypes:= #[t,t]},ty,pos,after,guard⟩:=by exact rfl)
    (hw:Region.wanted ⟨some d,.call {callee:=.builtin .append,args:= #[x,y],argTypes:= #[t,t]},ty,pos,after,guard⟩ (bU ops σ)=true:=by kernel_rfl)
    (hx:evF σ x=v:=by exact rfl) (hy:evF σ y=.slice B news.length c:=by exact rfl) (y8:0<k:=by decide) (D5:z.cells.size=k:=by exact rfl)
    (dX:fu ops lv (pd.map (·.1)) i=true:=by kernel_rfl) (oo:pd.filter (λp=> !((above ops i).contains p.1))=pd':=by exact pD)
    (h: ∀v' w',Sep w0 S (put (aY e k enc v' (l++news))) w'->jm P ops (upd σ d v') w' pd'/\FG P r n ops Q (lv.set i true) pd' (upd σ d v') w'):FG P r n ops Q lv pd σ w:=
  uW eZ i pd' ho hw (DY (P:=P) (t:=t) (ty:=ty) H hx hy Yq hat qy y8 D5 h63 hbytes) dX oo h
end
section
/-! The same,whatever else is ready. -/
variable {P:Program} {r:Option Nat} {n:Nat} {ops:AO} {Q:Post} {rest:LO} {σ:St} {w w' w0:Wd} {S:NP} {rs:List HP} {put:HP->List HP} {ty:Td} {pos:String} {after:Array Edge} {guard:Option (Nat×Bool)} {lv:List Bool} {pd:LNB} {α:Type} {enc:α->LV} {k e:Nat} {l news:List α} {A B:OA} {v:Value}
def gy (eZ:dS n ops=true) (i:Nat) (pd':LNB) {t e:Td} {xs:List Od} {parts:List (Nat×Od)} {out:LV} {size:Nat} [hs:cO P t e] [hc:Cells P e size bytes] [hz:Zero P e z] (H:Sep w0 S rs w) (hE:dZ (evF σ) size xs out)
    (ho:ops[i]? =some ⟨some d,.buildSlice t xs.length parts.toArray,ty,pos,after,guard⟩:=by exact rfl)
    (hw:Region.wanted ⟨some d,.buildSlice t xs.length parts.toArray,ty,pos,after,guard⟩ (bU ops σ)=true:=by kernel_rfl)
    (hp:parts=(xs.zipIdx 0).map λp=>(p.2,p.1):=by exact rfl) (hlen:Nat.ble (xs.length*size) 16777216=true:=by exact rfl)
    (dX:nX ops lv (pd.map (·.1)) i=true:=by kernel_rfl) (oo:pd.filter (λp=> !((above ops i).contains p.1))=pd':=by exact pD)
    (h: ∀b w',Sep w0 S (blk b out e::rs) w'->jm P ops (upd σ d (.slice (some ⟨b,0,none⟩) xs.length xs.length)) w' pd'/\FG P r n ops Q (lv.set i true) pd' (upd σ d (.slice (some ⟨b,0,none⟩) xs.length xs.length)) w'):pI P r n ops Q lv pd σ w i:=
  F8 eZ i pd' (C:=λv w'=>∃b,v=.slice (some ⟨b,0,none⟩) xs.length xs.length/\Sep w0 S (blk b out e::rs) w') ho hw ⟨_,_,Gives.buildSlice hE hp hlen,_,rfl,H.alloc _⟩ dX oo λv w' ⟨b,hv,ae7⟩=>by subst hv;exact h b w' ae7
def Ot (eZ:dS n ops=true) (e:Nat) (pd':LNB) {f:FuncId} {xs:List Od} {ats:Array Td} {vals:LV} (H:Sep w0 S rs w) (hc:Rk P f vals w v)
    (ho:ops[e]? =some ⟨some d,.call {callee:=.value (.func f),args:=xs.toArray,argTypes:=ats},ty,pos,after,guard⟩:=by exact rfl)
    (hw:Region.wanted ⟨some d,.call {callee:=.value (.func f),args:=xs.toArray,argTypes:=ats},ty,pos,after,guard⟩ (bU ops σ)=true:=by kernel_rfl) (hv:xs.map (evF σ)=vals:=by exact rfl) (dX:nX ops lv (pd.map (·.1)) e=true:=by kernel_rfl)
    (oo:pd.filter (λp=> !((above ops e).contains p.1))=pd':=by exact pD) (h: ∀w',Sep w0 S rs w'->Kept noB w w'->jm P ops (upd σ d v) w' pd'/\FG P r n ops Q (lv.set e true) pd' (upd σ d v) w') (he:qm P f:=by exact eT):pI P r n ops Q lv pd σ w e:=
  JC eZ e pd' ho hw hc hv dX oo λv' w' ⟨h1,h2⟩=>by subst h1;exact h w' (H.keep h2) h2
end
def Rd.cut {α:Type} {enc:α->LV} {k:Nat} [hk:je enc k] {l:List α} (h:Rd w A enc k l) (m:Nat):Rd w A enc k (l.take m):=by
 refine⟨jq hk.len _,λhn=>?_⟩;have hl:0<l.length:=by rw[zah]at hn;omega
 obtain⟨ad,h1,h2⟩:=h.at_ hl;refine⟨ad,h1,λj u hu=>h2 j u ?_⟩;rw[JK hk.len,zcs]at hu
 split at hu
 .exact hu
 cases hu
def Rd.from {α:Type} {enc:α->LV} {k:Nat} [hk:je enc k] {l:List α} (h:Rd w A enc k l) (m:Nat):Rd w (A.map λa=>a.add (m*k)) enc k (l.drop m):=by
 refine⟨jq hk.len _,λhn=>?_⟩;rw[zbo]at hn;obtain⟨ad,h1,h2⟩:=h.at_ oM;subst h1;refine⟨ad.add (m*k),rfl,λj u hu=>?_⟩;rw[add_add];refine h2 _ _ ?_;rw[<-hu];have e:l.flatMap enc=(l.take m).flatMap enc++(l.drop m).flatMap enc:=by rw[<-zbt,zbs]
 have el:((l.take m).flatMap enc).length=m*k:=by rw[jq hk.len,zah,zdc oM]
 rw[e,zby oM,el,Nat.add_sub_cancel_left]
def Rd.nil {α:Type} {enc:α->LV} {k:Nat}:Rd w A enc k []:=⟨sM,λh=>zar h sM⟩
def Rd.aon {α:Type} {enc:α->LV} {k c:Nat} [hk:je enc k] {l:List α} (h:Rd w A enc k l) (m:Nat) (hc:l.length<=c):Rd w (if c=m then A else A.map λa=>a.add (m*k)) enc k (l.drop m):=by
 split
 .rw[zbv oM];exact Rd.nil
 exact h.from m
end
def intCells (n:Int):LV:=[I n]
def gN (s:L8):LV:=[str s]
instance:je intCells 1:=⟨λ_=>rfl⟩
instance:je gN 1:=⟨λ_=>rfl⟩
def vJ {α β:Type} (e k:Nat) (enc:α->LV) (val:β->Value) (row:β->List α) (l:List β):HP:=jf (l.map λx=>aY e k enc (val x) (row x))
section
variable {α β:Type} {enc:α->LV} {val:β->Value} {row:β->List α} {k e:Nat} {l:List β} {x:β} {w w0:Wd} {S:NP} {rs:List HP} {put:HP->List HP}
def Sep.ab0 (h:Sep w0 S rs w) (e k:Nat) (enc:α->LV) (val:β->Value) (row:β->List α):Sep w0 S (vJ e k enc val row []::rs) w:=Sep.lu trivial h
def Sep.XZ (h:Sep w0 S (aY e k enc (val x) (row x)::vJ e k enc val row l::rs) w):Sep w0 S (vJ e k enc val row (l++[x])::rs) w:=by
 refine Sep.imp h.aQ At0 λF hF=>?_;obtain⟨F1,F2,hF,hd,h1,h2⟩:=hF;unfold vJ;rw[zai];exact Ea (l2:=[]) hF hd h1 (by rw[zbw];exact h2)
end
variable {a b c:aC} {t ta:bM} {k:Int} {cols:List bY} {res:Option aC} {r:List aC}
open Go.Lib
section
attribute [local irreducible] FW FL FG FGn jK jO fI lU Qfn Gives
section
def resT (cols:List bY) (st:List bM) (x:bI):Option bM:=
 if dF x.kind=0 then qL cols x else vG x.kind (st.getD (st.length-dF x.kind) gT) (st.getD (st.length-1) gT)
def Cc {cols:List bY} {st:List bM} {x:bI} (h:dP x=false\/st.length<dF x.kind):stepT cols st x=none:=by
 unfold stepT
 by_cases h1:dP x=false
 .dsimp only;rw[zac (.inl h1)]
 have hm:dP x=true:=by simpa using h1
 rw[Dk hm]at h;dsimp only;rw[zac (h.imp id id)]
def RB {cols:List bY} {st:List bM} {x:bI} (h1:dP x=true) (h2:dF x.kind<=st.length):stepT cols st x=(resT cols st x).map λt=>st.take (st.length-dF x.kind)++[t]:=by
 unfold stepT resT;rw[Dk h1]at h2 ⊢;dsimp only;rw[zab (by rw[h1];simp;omega)]
def RD (k:Int):dF k<=2:=by
 unfold dF
 repeat' split
 all_goals omega
def jr {α:Type} {l:List α} {i:Nat} {c d:α} (h:l[i]? =some c):l.getD i d=c:=by rw[zax,h];rfl
def eX {α:Type} {w0:Wd} {S:NP} {rs:List HP} {put:HP->List HP} {e k c:Nat} {enc:α->LV} {l:List α} {A:OA} (H:Sep w0 S rs w) (hat:At rs (aY e k enc (.slice A l.length c) l) put):Rd w A enc k l:=Sep.rowAt H hat
attribute [local irreducible] dP nZ
section
variable {w:Wd}
def JL {l:List bI} {vc vl:Value} (hc:aJ w vc aP 7 cols) (hl:aJ w vl aM 3 l):Rk Tryz.prog 60 [vc,vl] w (.tuple #[agg (aD (iJ cols l).1),I (iJ cols l).2]):=by
  have OM:=hc;obtain⟨A,m,rfl,⟨hm,om⟩,hA⟩:=hc;obtain⟨C,n,rfl,⟨hn,hn'⟩,hC⟩:=hl;have H:=Sep.aF w;obtain⟨res,ak⟩: ∃res,res=iJ cols l:=⟨_,rfl⟩;rw[<-ak];unfold iJ at ak;refine sQ Tryz.func60 ?_;refine Az (λb1 w2 H2 k1=>?_);refine Cz (λYz=>?_) (λYz=>?_)
  . have bT:res=(gT,5):=by rw[ak,zac oM]
    refine Sr (Vb (aD gT) ?_);refine Tz (λwa Ha=>?_);refine Zb1 ?_;exact⟨_,bE Ha,by rw[bT];rfl,Ha.kept⟩
  rw[zab oM]at ak;refine Zb2 ?_;have Hb:=Sep.iW H2 65 2 aD;refine aI (λx:Nat×List bM×Value=>[(0,.slice A cols.length m),(1,.slice C l.length n),(4,.pointer (some ⟨b1,0,none⟩)),(6,x.2.2),(7,I x.1)]) (λx w'=>(x.1<=l.length/\x.2.1.length<=x.1/\runT cols x.2.1 (l.drop x.1)=runT cols [] l)/\Sep w noB [aY 65 2 aD x.2.2 x.2.1,blk b1 (aD gT) 65] w') (λx _=>l.length-x.1) (0,[],_) tR ⟨⟨zak _,zbj _,rfl⟩,Hb⟩ (λx τ wb hI=>?_);obtain⟨i,st,v0⟩:=x;obtain⟨⟨hi,X9,dJ⟩,Hb⟩:=hI;dsimp only at hi X9 dJ Hb;obtain⟨B,cb,rfl,OO,hB⟩:=Sep.bJ Hb At0;refine Lp ?_;refine Cz (λIe=>?_) (λIe=>?_)
  . have aS:i<l.length:=oM
    obtain⟨x,hx⟩:=get_some aS
    have hdr:l.drop i=x::l.drop (i+1):=by
      rw[zbn aS];rw[zaa aS]at hx;injection hx with hx;rw[hx]
    rw[hdr,runT]at dJ;have xY:=RD x.kind;refine Zb8 ?_;refine eB (Ol _) (h:=?_);refine Kz (aeN _) (λwc Hc ka=>?_);refine Zb2 ?_;refine dH (t:=36) rfl (λSa=>?_) (λSa=>?_)
    . have xZ:dP x=false:=by simpa using Sa
      refine Zb1 ?_;refine Vb (aD gT) ?_;refine Tz (λwd Hd=>?_);refine Zb1 ?_;have l9:stepT cols st x=none:=Cc (by first | (left;assumption) | (right;omega));rw[l9]at dJ;rw[<-dJ]at ak;exact⟨_,bE Hd,by rw[ak];rfl,Hd.kept⟩
    have xZ:dP x=true:=by simpa using Sa
    refine Cz (λIf=>?_) (λIf=>?_)
    . refine Sr (Vb (aD gT) ?_)
      refine Tz (λwe He=>?_);refine Zb1 ?_;have l9:stepT cols st x=none:=Cc (by first | (left;assumption) | (right;omega));rw[l9]at dJ;rw[<-dJ]at ak;exact⟨_,bE He,by rw[ak];rfl,He.kept⟩
    have rG:dF x.kind<=st.length:=oM;have D7:=RB (cols:=cols) xZ rG;obtain⟨rt,hrt⟩: ∃rt,rt=resT cols st x:=⟨_,rfl⟩;rw[<-hrt]at D7;rw[D7]at dJ;unfold resT at hrt;refine Zb0 ?_;refine Vb (aD gT) ?_;refine Az (λbt wf Hf _=>?_);refine Tz (λwg Hg=>?_);refine Za1 ?_;refine Qn (dD (λz:bM×Bool=>[(0,.slice A cols.length m),(1,.slice C l.length n),(4,.pointer (some ⟨b1,0,none⟩)),(6,.slice B st.length cb),(7,I i),(8,I st.length),(9,I (dF x.kind)),(10,.pointer (some ⟨bt,0,none⟩)),(11,.bool z.2)]) (λz w'=>(z.2=rt.isSome/\∀y,rt=some y->z.1=y)/\Sep w noB [blk bt (aD z.1) 65,aY 65 2 aD (.slice B st.length cb) st,blk b1 (aD gT) 65] w') ?_ ?_)
    . refine Cz (λIg=>?_) (λIg=>?_)
      . rw[zac oM]at hrt
        refine Kz (aeR x (OM.keep Hg.kept)) (λwh Hh kb=>?_);refine Tz (λwi Hi=>?_);refine Zb1 ?_;exact au ((qL cols x).getD gT,(qL cols x).isSome) tR ⟨⟨by rw[hrt],λy hy=>by rw[<-hrt,hy];rfl⟩,Hi⟩
      have lI:1<=dF x.kind:=oM;obtain⟨a,ha⟩:=get_some (l:=st) (i:=st.length-dF x.kind) oM;obtain⟨b,hb⟩:=get_some (l:=st) (i:=st.length-1) oM;rw[zab oM,jr ha,jr hb]at hrt;refine Dz (λSb wj Hj=>?_);refine Zb8 ?_;refine Gc Sb 8 ((st.length-dF x.kind:Nat):Int) ?_;refine Zb1 ?_;refine GS (Gt rfl (Gives.oW rfl (eX Hj At1) ha) ?_);refine Zb2 ?_;refine Gc Sb 13 ((st.length-1:Nat):Int) ?_;refine Zb1 ?_;refine GS (Gt rfl (Gives.oW rfl (eX Hj At1) hb) ?_);refine qG Sb 16 [] rfl kR (aeS x.kind a b) rfl kR kR (λv' wk hv=>?_);obtain⟨⟨t,rfl,ht⟩,bZ⟩:=hv;have Hk:=Hj.keep bZ;refine⟨sT,?_⟩;refine Zb3 ?_;refine bN Sb 20 _ Hk (h:=λwl Hl=>⟨sT,?_⟩);refine Zb1 ?_;exact au (t,(vG x.kind a b).isSome) tR ⟨⟨by rw[hrt],λy hy=>ht y (by rw[<-hrt];exact hy)⟩,Hl⟩
    rintro⟨t,ok⟩ τ wm ⟨⟨am6,EI⟩,Hm⟩;dsimp only at am6 EI Hm;refine Lp ?_;refine Za2 ?_;refine Qn (Cd rfl (λIh=>?_) (λIh=>?_))
    . have hrn:rt=none:=by
        cases rt with
        | none=>rfl
        | some y=>rw[am6]at Ih;cases Ih
      rw[hrn]at dJ;have Dv:none=runT cols [] l:=dJ;rw[<-Dv]at ak;have bT:res=(gT,220):=ak;refine Sr (Vb (aD gT) ?_);refine Tz (λwn Hn=>?_);refine Zb1 ?_;exact⟨_,bE Hn,by rw[bT];rfl,Hn.kept⟩
    obtain⟨y,hy⟩: ∃y,rt=some y:=by
      cases rt with
      | none=>rw[am6]at Ih;cases Ih
      | some y=>exact⟨y,rfl⟩
    have hty:=EI y hy;subst hty;rw[hy]at dJ;have Dv:runT cols (st.take (st.length-dF x.kind)++[t]) (l.drop (i+1))=runT cols [] l:=dJ;refine Dz (λSc wo Ho=>?_);refine Zb3 ?_;refine Gc Sc 3 ((st.length-dF x.kind:Nat):Int) ?_;refine Zb2 ?_;refine Gz Sc 6 _ Ho ([t].flatMap aD) (h:=λb wp Hp=>⟨sT,?_⟩);have aaI:=Sep.aom (m:=st.length-dF x.kind) Hp At2 oM;have AJ:(st.take (st.length-dF x.kind)).length=st.length-dF x.kind:=by rw[zah];omega
    refine gF Sc 7 _ aaI (news:=[t]) At1 (by rw[AJ];unfold maxLen;simp;omega) (by rw[AJ];simp;omega) (cells_one (λ_=>rfl) [t]) (h:=λv2 wq Hq=>⟨sT,?_⟩);refine sH Sc 8 _ (h:=⟨sT,?_⟩);refine Zb3 ?_;exact aj (i+1,st.take (st.length-dF x.kind)++[t],v2) tR ⟨⟨dO,by dsimp only;rw[zad,AJ];simp;omega,Dv⟩,Hq.bH⟩ dO
  have jF:i=l.length:=oM;rw[jF,zef,runT]at dJ;rw[<-dJ]at ak;refine Cz (λIi=>?_) (λIi=>?_)
  . have bT:res=(gT,220):=by
      rw[ak]
      match st,Ii with
      | [],_=>rfl
      | [_],h=>exact zar rfl h
      | _::_::_,_=>rfl
    refine Sr (Vb (aD gT) ?_);refine Tz (λwr Hr=>?_);refine Zb1 ?_;exact⟨_,bE Hr,by rw[bT];rfl,Hr.kept⟩
  have h1:st.length=1:=oM;obtain⟨t,ht⟩:=zfo.1 h1;have hg:st[0]? =some t:=by rw[ht];rfl
  have bT:res=(t,0):=by rw[ak,ht]
  refine Zb1 ?_;refine Vv (Gives.fF (i:=0) rfl rfl hB oM) (Vv (Gives.oW (i:=0) rfl hB hg) ?_);refine Tz (λws Hs=>?_);refine Zb1 ?_;exact⟨_,bE Hs,by rw[bT];rfl,Hs.kept⟩
end
end
open Go.Proofs.Tryz
section
def X3 {n b:Int} (hn: -9223372036854775808<=n/\n<=9223372036854775807) (h0:b≠0) (h1:b≠ -1): -9223372036854775808<=n.tdiv b/\n.tdiv b<=9223372036854775807:=by
 by_cases hb:b=1
 .subst hb;rw[Int.tdiv_one];exact hn
 have e:(n.tdiv b).natAbs=n.natAbs/b.natAbs:=Int.natAbs_tdiv n b;have hb2:2<=b.natAbs:=oM;have h2:n.natAbs/b.natAbs<=n.natAbs/2:=Nat.div_le_div_left hb2 dC;obtain⟨q,hq⟩: ∃q,q=n.natAbs/b.natAbs:=⟨_,rfl⟩;obtain⟨m,hm⟩: ∃m,m=n.tdiv b:=⟨_,rfl⟩;rw[<-hq]at e h2;rw[<-hm]at e ⊢;omega
def RF {a b:Int} (h0:b≠0) (hb: -9223372036854775808<=b/\b<=9223372036854775807):(IntKind.i64.wrap (a*b)).tdiv b=a↔aW (a*b)=true:=by
 obtain⟨p,hp⟩: ∃p,p=a*b:=⟨_,rfl⟩;rw[<-hp];constructor
 .intro h
  refine zap ?_;obtain⟨n,hn⟩: ∃n,n=IntKind.i64.wrap p:=⟨_,rfl⟩;rw[<-hn]at h;have hm:=(Int.mul_tdiv_add_tmod n b).symm;have Dn:(n.tmod b).natAbs=n.natAbs%b.natAbs:=Int.natAbs_tmod n b;have hm3:n.natAbs%b.natAbs<b.natAbs:=Nat.mod_lt _ oM;rw[h,Int.mul_comm,<-hp]at hm;rw[IntKind.wrap_i64]at hn;omega
 intro h;have h':=zbd h;rw[wrap64 h',hp,Int.mul_tdiv_cancel _ h0]
def JM (k:Int) (a b:aC):aC:=
 if k=13/\((a.null=false/\a.n=0)\/(b.null=false/\b.n=0))then gW false
 else if k=14/\(a.n=1\/b.n=1)then gW true
 else if a.null=true\/b.null=true then bF
 else if k=15 then gW (decide (a.n=0))
 else gW (decide (k=13))
section
variable {w:Wd}
def Gj (a b:Int) (ha:fits a) (hb:fits b):aR prog 221 [I a,I b] w λv w'=>(∃c,v=.tuple #[I c,.bool (aW (a*b))]/\(aW (a*b)=true->c=a*b))/\Kept noB w w':=by
 have H:=Sep.aF w;obtain⟨UH,UW⟩:=ha;obtain⟨EL,hb2⟩:=hb;refine bQ func221 ?_;refine Sz (λk=>?_) (λk=>?_)
 .refine Zb3 ?_
  have h0:a*b=0:=by first | (rw[show a=0 from oM];simp) | (rw[show b=0 from oM];simp)
  rw[h0];exact⟨⟨0,rfl,λ_=>rfl⟩,H.kept⟩
 refine Cz (λk=>?_) (λk=>?_)
 .refine Zb2 ?_
  have h0:a*b=0:=by first | (rw[show a=0 from oM];simp) | (rw[show b=0 from oM];simp)
  rw[h0];exact⟨⟨0,rfl,λ_=>rfl⟩,H.kept⟩
 refine Cz (λk=>?_) (λk=>?_)
 .refine Zb1 ?_
  refine Vv (Gives.aj4 (c:=IntKind.i64.wrap (0-b)) rfl rfl) (Zb4 ?_);have h0:a*b= -b:=by rw[show a= -1 from oM];simp
  rw[h0];have hf:aW (-b)=decide (b≠ -9223372036854775808):=by unfold aW;rw[zbf];omega
  rw[hf];exact⟨⟨IntKind.i64.wrap (0-b),rfl,λh=>by have:=zbd h;rw[wrap64 oM];omega⟩,H.kept⟩
 refine Cz (λk=>?_) (λk=>?_)
 .refine Zb1 ?_
  refine Vv (Gives.aj4 (c:=IntKind.i64.wrap (0-a)) rfl rfl) (Zb4 ?_);have h0:a*b= -a:=by rw[show b= -1 from oM];simp
  rw[h0];have hf:aW (-a)=decide (a≠ -9223372036854775808):=by unfold aW;rw[zbf];omega
  rw[hf];exact⟨⟨IntKind.i64.wrap (0-a),rfl,λh=>by have:=zbd h;rw[wrap64 oM];omega⟩,H.kept⟩
 refine Zb2 ?_;refine Vv (Gives.aok (c:=IntKind.i64.wrap (a*b)) rfl rfl rfl) (Dz (λk _ S=>?_));refine Zb3 ?_;refine Gp k 3 rfl rfl (λ_=>(Gives.aol (c:=(IntKind.i64.wrap (a*b)).tdiv b) rfl rfl oM (wrap64 (X3 (by rw[IntKind.wrap_i64];omega) oM oM)))) ?_;refine Zb4 ?_;have RG:=RF (a:=a) (b:=b) oM ⟨EL,hb2⟩;have hf:aW (a*b)=decide ((IntKind.i64.wrap (a*b)).tdiv b=a):=by rw[zdt,decide_eq_true_eq];exact RG.symm
 refine⟨⟨IntKind.i64.wrap (a*b),by rw[hf];rfl,λh=>wrap64 (zbd h)⟩,S.kept⟩
def ED (k:Int) (a b:aC):Rk prog 218 [I k,agg (ah a),agg (ah b)] w (agg (ah (JM k a b))):=by
 have H:=Sep.aF w;obtain⟨res,ak⟩: ∃res,res=JM k a b:=⟨_,rfl⟩;rw[<-ak];unfold JM at ak;refine zX func218 ?_;refine Sr (bB H (h:=λb1 _ S _=>?_));refine bB S (h:=λb3 _ _ _=>?_);refine Az (λb5 _ S _=>?_);refine Qn (dD (λz:Bool=>[(0,I k),(4,.pointer (some ⟨b1,0,none⟩)),(5,.pointer (some ⟨b3,0,none⟩)),(6,.pointer (some ⟨b5,0,none⟩)),(7,.bool z)]) (λz w'=>z=decide (a.null=true\/b.null=true)/\Sep w noB [blk b5 (ah cell0) 41,blk b3 (ah b) 41,blk b1 (ah a) 41] w') ?_ ?_)
 .refine Zb3 ?_
  refine dH (t:=12) rfl (λc=>?_) (λc=>?_)
  .refine Zb2 ?_
   exact au _ tR ⟨by simp[*],S⟩
  refine Zb4 ?_;exact au _ tR ⟨by simp[*],S⟩
 rintro nn τ c ⟨tu,c⟩;refine Lp ?_;refine dD (λz:Bool=>[(0,I k),(4,.pointer (some ⟨b1,0,none⟩)),(5,.pointer (some ⟨b3,0,none⟩)),(6,.pointer (some ⟨b5,0,none⟩)),(7,.bool nn),(8,.bool z)]) (λz w'=>z=decide (a.n=1\/b.n=1)/\Sep w noB [blk b5 (ah cell0) 41,blk b3 (ah b) 41,blk b1 (ah a) 41] w') ?_ ?_
 .refine Sz (λS=>?_) (λS=>?_)
  .refine Zb2 ?_
   exact au _ tR ⟨by simp[*],c⟩
  refine Zb5 ?_;exact au _ tR ⟨by simp[*],c⟩
 rintro n1 τ S ⟨Ag,S⟩;refine Lp ?_;refine dD (λz:Bool=>[(0,I k),(4,.pointer (some ⟨b1,0,none⟩)),(5,.pointer (some ⟨b3,0,none⟩)),(6,.pointer (some ⟨b5,0,none⟩)),(7,.bool nn),(8,.bool n1),(9,.bool z)]) (λz w'=>z=decide ((a.null=false/\a.n=0)\/(b.null=false/\b.n=0))/\Sep w noB [blk b5 (ah cell0) 41,blk b3 (ah b) 41,blk b1 (ah a) 41] w') ?_ ?_
 .refine Zb4 ?_
  refine dH (t:=27) rfl (λc=>?_) (λc=>?_)
  .refine Sz (λc=>?_) (λc=>?_)
   .refine Zb2 ?_
    exact au _ tR ⟨by first | (simp[*];done) | (simp_all;done),S⟩
   refine Zb4 ?_;refine dH (t:=36) rfl (λc=>?_) (λc=>?_)
   .refine Zb6 ?_
    exact au _ tR ⟨by first | (simp[*];done) | (simp_all;done),S⟩
   refine Zb3 ?_;exact au _ tR ⟨by first | (simp[*];done) | (simp_all;done),S⟩
  refine Zb6 ?_;refine dH (t:=36) rfl (λc=>?_) (λc=>?_)
  .refine Zb6 ?_
   exact au _ tR ⟨by first | (simp[*];done) | (simp_all;done),S⟩
  refine Zb3 ?_;exact au _ tR ⟨by first | (simp[*];done) | (simp_all;done),S⟩
 rintro n0 τ c ⟨za,c⟩;have hres':res=if k=13/\n0=true then gW false else if k=14/\n1=true then gW true else if nn=true then bF else if k=15 then gW (decide (a.n=0))else gW (decide (k=13)):=by rw[ak,za,Ag,tu];simp only[decide_eq_true_eq]
 clear ak za Ag tu;refine Lp ?_;refine Sz (λc=>?_) (λc=>?_)
 .refine Za3 ?_
  refine Qn (Cd rfl (λc=>?_) (λc=>?_))
  .refine Kz (iU _) (λ_ _ _=>?_)
   refine Tz (λ_ c=>?_);refine Zb0 ?_;refine⟨_,fB c,?_,c.kept⟩;show agg (ah _)=agg (ah res)
   (rw[hres'];simp[*])
  refine Sz (λc=>?_) (λc=>?_)
  .refine Za3 ?_
   refine Qn (Cd rfl (λc=>?_) (λc=>?_))
   .refine Kz (iU _) (λ_ _ _=>?_)
    refine Tz (λ_ c=>?_);refine Zb0 ?_;refine⟨_,fB c,?_,c.kept⟩;show agg (ah _)=agg (ah res)
    (exfalso;omega)
   refine Za2 ?_;refine Qn (Cd rfl (λc=>?_) (λc=>?_))
   .refine Sr (Vb (ah bF) ?_)
    refine Tz (λ_ c=>?_);refine Zb0 ?_;refine⟨_,fB c,?_,c.kept⟩;show agg (ah _)=agg (ah res)
    (exfalso;omega)
   refine Cz (λc=>?_) (λc=>?_)
   .refine Kz (iU _) (λ_ _ _=>?_)
    refine Tz (λ_ c=>?_);refine Zb0 ?_;refine⟨_,fB c,?_,c.kept⟩;show agg (ah _)=agg (ah res)
    (exfalso;omega)
   refine Kz (iU _) (λ_ _ _=>?_);refine Tz (λ_ c=>?_);refine Zb0 ?_;refine⟨_,fB c,?_,c.kept⟩;show agg (ah _)=agg (ah res)
   (exfalso;omega)
  refine Za4 ?_;refine Qn (Cd rfl (λc=>?_) (λc=>?_))
  .refine Sr (Vb (ah bF) ?_)
   refine Tz (λ_ c=>?_);refine Zb0 ?_;refine⟨_,fB c,?_,c.kept⟩;show agg (ah _)=agg (ah res)
   (rw[hres'];simp[*])
  refine Cz (λc=>?_) (λc=>?_)
  .refine Kz (iU _) (λ_ _ _=>?_)
   refine Tz (λ_ c=>?_);refine Zb0 ?_;refine⟨_,fB c,?_,c.kept⟩;show agg (ah _)=agg (ah res)
   (exfalso;omega)
  refine Kz (iU _) (λ_ _ _=>?_);refine Tz (λ_ c=>?_);refine Zb0 ?_;refine⟨_,fB c,?_,c.kept⟩;show agg (ah _)=agg (ah res)
  (rw[hres'];simp[*])
 refine Sz (λc=>?_) (λc=>?_)
 .refine Za3 ?_
  refine Qn (Cd rfl (λc=>?_) (λc=>?_))
  .refine Kz (iU _) (λ_ _ _=>?_)
   refine Tz (λ_ c=>?_);refine Zb0 ?_;refine⟨_,fB c,?_,c.kept⟩;show agg (ah _)=agg (ah res)
   (rw[hres'];simp[*])
  refine Za2 ?_;refine Qn (Cd rfl (λc=>?_) (λc=>?_))
  .refine Sr (Vb (ah bF) ?_)
   refine Tz (λ_ c=>?_);refine Zb0 ?_;refine⟨_,fB c,?_,c.kept⟩;show agg (ah _)=agg (ah res)
   (rw[hres'];simp[*])
  refine Cz (λc=>?_) (λc=>?_)
  .refine Kz (iU _) (λ_ _ _=>?_)
   refine Tz (λ_ c=>?_);refine Zb0 ?_;refine⟨_,fB c,?_,c.kept⟩;show agg (ah _)=agg (ah res)
   (exfalso;omega)
  refine Kz (iU _) (λ_ _ _=>?_);refine Tz (λ_ c=>?_);refine Zb0 ?_;refine⟨_,fB c,?_,c.kept⟩;show agg (ah _)=agg (ah res)
  (rw[hres'];simp[*])
 refine Za4 ?_;refine Qn (Cd rfl (λc=>?_) (λc=>?_))
 .refine Sr (Vb (ah bF) ?_)
  refine Tz (λ_ c=>?_);refine Zb0 ?_;refine⟨_,fB c,?_,c.kept⟩;show agg (ah _)=agg (ah res)
  (rw[hres'];simp[*])
 refine Cz (λc=>?_) (λc=>?_)
 .refine Kz (iU _) (λ_ _ _=>?_)
  refine Tz (λ_ c=>?_);refine Zb0 ?_;refine⟨_,fB c,?_,c.kept⟩;show agg (ah _)=agg (ah res)
  (rw[hres'];simp[*])
 refine Kz (iU _) (λ_ _ _=>?_);refine Tz (λ_ c=>?_);refine Zb0 ?_;refine⟨_,fB c,?_,c.kept⟩;show agg (ah _)=agg (ah res)
 (rw[hres'];simp[*])
end
def Du (n:Int):Option aC:=if aW n=true then some ⟨false,n,[]⟩else none
def jX (k:Int) (a b:aC):Option aC:=
 if k=13\/k=14\/k=15 then some (JM k a b)
 else if k=16 then some (gW a.null)
 else if k=17 then some (if a.null=true then b else a)
 else if a.null=true\/b.null=true then some bF
 else if k=7 then Du (a.n+b.n)
 else if k=8 then Du (a.n-b.n)
 else if k=9 then Du (a.n*b.n)
 else if k=10 then Du (-a.n)
 else if k=11 then some (gW (decide (a=b)))
 else if k=12 then some (gW (decide (nk a b<0)))
 else some ⟨false,a.s.length,[]⟩
def aeT {ok:Bool} (h1:ok=res.isSome) (h2: ∀y,res=some y->c=y): ∃t',Value.tuple #[agg (ah c),.bool ok]=.tuple #[agg (ah t'),.bool res.isSome]/\∀x,res=some x->t'=x:=
 ⟨c,by rw[h1],h2⟩
def dK (h:res=some c): ∃t',Value.tuple #[agg (ah c),.bool true]=.tuple #[agg (ah t'),.bool res.isSome]/\∀x,res=some x->t'=x:=
 aeT (by rw[h];rfl) (λy hy=>by rw[h]at hy;injection hy)
def fZ {n c:Int} {ok:Bool} (h:res=Du n) (h1:ok=aW n) (h2:aW n=true->c=n): ∃t',Value.tuple #[agg (ah ⟨false,c,[]⟩),.bool ok]=.tuple #[agg (ah t'),.bool res.isSome]/\∀x,res=some x->t'=x:=by
 subst h h1;unfold Du;cases hf:aW n with
 | false=>exact⟨_,rfl,λy hy=>by cases hy⟩
 | true=>exact⟨_,rfl,λy hy=>by rw[h2 hf];injection hy⟩
attribute [local irreducible] nk
section
variable {w:Wd}
def Ou (k:Int) (a b:aC) (ha:fits a.n) (hb:fits b.n) (hs:a.s.length<=9223372036854775807):aR Tryz.prog 150 [I k,agg (ah a),agg (ah b)] w λv w'=>(∃c,v=.tuple #[agg (ah c),.bool (jX k a b).isSome]/\∀y,jX k a b=some y->c=y)/\Kept noB w w':=by
 have H:=Sep.aF w;have YA:=ha;obtain⟨UH,UW⟩:=ha;obtain⟨EL,hb2⟩:=hb;obtain⟨res,ak⟩: ∃res,res=jX k a b:=⟨_,rfl⟩;rw[<-ak];unfold jX at ak;refine zX Tryz.func150 ?_;refine Sr (bB H (h:=λb1 _ S _=>?_));refine bB S (h:=λb3 _ _ _=>?_);refine Az (λb5 _ S _=>?_);refine Cz (λd=>?_) (λd=>?_)
 .refine Sk (dQ (zaw Value.bool (zap d)) ?_)
  refine Kz (ED k a b) (λ_ _ _=>?_);refine Tz (λ_ d=>?_);refine Zb1 ?_;exact⟨_,bE d,dK (by rw[ak,zac oM]),d.kept⟩
 refine Cz (λd=>?_) (λd=>?_)
 .refine Sk (dQ (zaw Value.bool (zap d)) ?_)
  refine Kz (ED k a b) (λ_ _ _=>?_);refine Tz (λ_ d=>?_);refine Zb1 ?_;exact⟨_,bE d,dK (by rw[ak,zac oM]),d.kept⟩
 refine Cz (λd=>?_) (λd=>?_)
 .refine Kz (ED k a b) (λ_ _ _=>?_)
  refine Tz (λ_ d=>?_);refine Zb1 ?_;exact⟨_,bE d,dK (by rw[ak,zac oM]),d.kept⟩
 refine Cz (λd=>?_) (λd=>?_)
 .refine Kz (iU _) (λ_ _ _=>?_)
  refine Tz (λ_ d=>?_);refine Zb1 ?_;exact⟨_,bE d,dK (by rw[ak,zab oM,zac oM]),d.kept⟩
 refine Cz (λd=>?_) (λd=>?_)
 .refine Za2 ?_
  refine Qn (Cd rfl (λd=>?_) (λd=>?_))
  .refine Tz (λ_ d=>?_)
   refine Zb1 ?_;exact⟨_,bE d,dK (by rw[ak,zab oM,zab oM,zac oM,zac (by assumption)]),d.kept⟩
  refine Tz (λ_ d=>?_);refine Zb1 ?_;exact⟨_,bE d,dK (by rw[ak,zab oM,zab oM,zac oM,zab (by simp[*])]),d.kept⟩
 refine Zb3 ?_;refine dH (t:=32) rfl (λd=>?_) (λd=>?_)
 .refine Zb1 ?_
  refine Vb (ah bF) ?_;refine Tz (λ_ d=>?_);refine Zb1 ?_;exact⟨_,bE d,dK (by rw[ak,zab oM,zab oM,zab oM,zac (by simp[*])]),d.kept⟩
 refine Za3 ?_;refine Qn (Cd rfl (λd=>?_) (λd=>?_))
 .refine Sr (Vb (ah bF) ?_)
  refine Tz (λ_ d=>?_);refine Zb1 ?_;exact⟨_,bE d,dK (by rw[ak,zab oM,zab oM,zab oM,zac (by simp[*])]),d.kept⟩
 have tu: ¬(a.null=true\/b.null=true):=by simp[*]
 rw[zab oM,zab oM,zab oM,zab tu]at ak;refine Cz (λd=>?_) (λd=>?_)
 .rw[zac d]at ak
  refine Zb4 ?_;refine eB (XY a.n b.n ⟨UH,UW⟩ ⟨EL,hb2⟩) (h:=?_);refine Zb6 ?_;refine Vb (ah ⟨false,if aW (a.n+b.n)=true then a.n+b.n else 0,[]⟩) ?_;refine Mv ?_;refine Tz (λ_ e=>?_);refine Zb1 ?_
  first
  | exact⟨_,bE e,fZ (n:=a.n+b.n) ak rfl (λh=>zac h),e.kept⟩
  | exact⟨_,bE e,fZ (n:=a.n-b.n) ak (by rw[zdj]) (λh=>by rw[zdj]at h ⊢;exact zac h),e.kept⟩
  | exact⟨_,bE e,fZ (n:=a.n*b.n) ak rfl YB,e.kept⟩
  | exact⟨_,bE e,fZ (n:= -a.n) ak (by rw[show -a.n=a.n* -1 from oM]) (λh=>by rw[show -a.n=a.n* -1 from oM]at h ⊢;exact YB h),e.kept⟩
  | exact⟨_,bE e,dK ak,e.kept⟩
 rw[zab d]at ak;refine Cz (λe=>?_) (λe=>?_)
 .rw[zac e]at ak
  refine Cz (λd=>?_) (λd=>?_)
  .refine Dz (λd _ f=>?_)
   refine Zb2 ?_;refine Gp d 2 rfl rfl (λ_=>(Gives.aaz (c:=IntKind.i64.wrap (a.n+1)) rfl rfl rfl)) (Gp d 3 rfl rfl (λ_=>(Gives.aaz (c:=IntKind.i64.wrap (IntKind.i64.wrap (a.n+1)+9223372036854775807)) rfl rfl rfl)) ?_);refine Gb d 4 (ah ⟨false,IntKind.i64.wrap (IntKind.i64.wrap (a.n+1)+9223372036854775807),[]⟩) ?_;refine Zb3 ?_;refine bN d 8 [(7,true),(6,false),(5,true)] f (h:=λ_ f=>⟨sL,?_⟩);refine Zb1 ?_;exact⟨_,bE f,fZ (n:=a.n-b.n) ak (by unfold aW;rw[zbf];omega) (λh=>by have:=zbd h;rw[IntKind.wrap_i64,IntKind.wrap_i64];omega),f.kept⟩
  refine Zb4 ?_;refine Vv (Gives.aj4 (c:= -b.n) rfl (by rw[wrap64 oM];omega)) ?_;refine eB (XY a.n (-b.n) ⟨UH,UW⟩ ⟨oM,oM⟩) (h:=?_);refine Zb6 ?_;refine Vb (ah ⟨false,if aW (a.n+ -b.n)=true then a.n+ -b.n else 0,[]⟩) ?_;refine Mv ?_;refine Tz (λ_ f=>?_);refine Zb1 ?_
  first
  | exact⟨_,bE f,fZ (n:=a.n+b.n) ak rfl (λh=>zac h),f.kept⟩
  | exact⟨_,bE f,fZ (n:=a.n-b.n) ak (by rw[zdj]) (λh=>by rw[zdj]at h ⊢;exact zac h),f.kept⟩
  | exact⟨_,bE f,fZ (n:=a.n*b.n) ak rfl YB,f.kept⟩
  | exact⟨_,bE f,fZ (n:= -a.n) ak (by rw[show -a.n=a.n* -1 from oM]) (λh=>by rw[show -a.n=a.n* -1 from oM]at h ⊢;exact YB h),f.kept⟩
  | exact⟨_,bE f,dK ak,f.kept⟩
 rw[zab e]at ak;refine Cz (λf=>?_) (λf=>?_)
 .rw[zac f]at ak
  refine Zb4 ?_;refine aL (Gj a.n b.n YA ⟨EL,hb2⟩) rfl rfl (λv' _ hv=>?_);obtain⟨⟨cp,rfl,YB⟩,bZ⟩:=hv;have e:=S.keep bZ;refine Zb6 ?_;refine Vb (ah ⟨false,cp,[]⟩) ?_;refine Mv ?_;refine Tz (λ_ e=>?_);refine Zb1 ?_
  first
  | exact⟨_,bE e,fZ (n:=a.n+b.n) ak rfl (λh=>zac h),e.kept⟩
  | exact⟨_,bE e,fZ (n:=a.n-b.n) ak (by rw[zdj]) (λh=>by rw[zdj]at h ⊢;exact zac h),e.kept⟩
  | exact⟨_,bE e,fZ (n:=a.n*b.n) ak rfl YB,e.kept⟩
  | exact⟨_,bE e,fZ (n:= -a.n) ak (by rw[show -a.n=a.n* -1 from oM]) (λh=>by rw[show -a.n=a.n* -1 from oM]at h ⊢;exact YB h),e.kept⟩
  | exact⟨_,bE e,dK ak,e.kept⟩
 rw[zab f]at ak;refine Cz (λe=>?_) (λe=>?_)
 .rw[zac e]at ak
  refine Zb2 ?_;refine aL (Gj a.n (-1) YA ⟨dC,dC⟩) rfl rfl (λv' _ hv=>?_);obtain⟨⟨cp,rfl,YB⟩,bZ⟩:=hv;have f:=S.keep bZ;refine Zb6 ?_;refine Vb (ah ⟨false,cp,[]⟩) ?_;refine Mv ?_;refine Tz (λ_ f=>?_);refine Zb1 ?_
  first
  | exact⟨_,bE f,fZ (n:=a.n+b.n) ak rfl (λh=>zac h),f.kept⟩
  | exact⟨_,bE f,fZ (n:=a.n-b.n) ak (by rw[zdj]) (λh=>by rw[zdj]at h ⊢;exact zac h),f.kept⟩
  | exact⟨_,bE f,fZ (n:=a.n*b.n) ak rfl YB,f.kept⟩
  | exact⟨_,bE f,fZ (n:= -a.n) ak (by rw[show -a.n=a.n* -1 from oM]) (λh=>by rw[show -a.n=a.n* -1 from oM]at h ⊢;exact YB h),f.kept⟩
  | exact⟨_,bE f,dK ak,f.kept⟩
 rw[zab e]at ak;refine Cz (λf=>?_) (λf=>?_)
 .rw[zac f]at ak
  refine Zb2 ?_;refine Vv (Gives.aer (enc:=ah) _ _ rfl rfl) (Kz (iU _) (λ_ _ _=>?_));refine Tz (λ_ e=>?_);refine Zb1 ?_;exact⟨_,bE e,dK ak,e.kept⟩
 rw[zab f]at ak;refine Cz (λe=>?_) (λe=>?_)
 .rw[zac e]at ak
  refine Kz (KC _ _) (λ_ _ _=>?_);refine Vl ?_;refine Kz (iU _) (λ_ _ _=>?_);refine Tz (λ_ f=>?_);refine Zb1 ?_;exact⟨_,bE f,dK ak,f.kept⟩
 rw[zab e]at ak;refine Zb5 ?_;refine Vb (ah ⟨false,(a.s.length:Int),[]⟩) ?_;refine Mv ?_;refine Tz (λ_ f=>?_);refine Zb1 ?_
 first
 | exact⟨_,bE f,fZ (n:=a.n+b.n) ak rfl (λh=>zac h),f.kept⟩
 | exact⟨_,bE f,fZ (n:=a.n-b.n) ak (by rw[zdj]) (λh=>by rw[zdj]at h ⊢;exact zac h),f.kept⟩
 | exact⟨_,bE f,fZ (n:=a.n*b.n) ak rfl YB,f.kept⟩
 | exact⟨_,bE f,fZ (n:= -a.n) ak (by rw[show -a.n=a.n* -1 from oM]) (λh=>by rw[show -a.n=a.n* -1 from oM]at h ⊢;exact YB h),f.kept⟩
 | exact⟨_,bE f,dK ak,f.kept⟩
end
end
section
def okC (t:bM) (c:aC):Prop:=gJ t c=0
def lY:okC t c↔(nZ t=true/\((c.null=true/\t.null=true/\c=bF)\/(c.null=false/\isC t.kind c=true))):=by
 unfold okC gJ;cases hm:nZ t
 .simp
 cases hn:c.null
 .cases hi:isC t.kind c<;>simp
 by_cases h:t.null=true/\c=bF
 .simp[h]
 simp[h]
def X4 (h:nZ t=true):1<=t.kind/\t.kind<=5:=zbd h
def Af (h:1<=t.kind/\t.kind<=5):nZ t=true:=zap h
def y5 (h:1<=k/\k<=5):okC ⟨k,true⟩ bF:=lY.2 ⟨Af h,.inl ⟨rfl,rfl,rfl⟩⟩
def y7 (n:Bool) (b:Bool):okC ⟨1,n⟩ (gW b):=lY.2 ⟨Af (show(1:Int)<=1/\(1:Int)<=5 from dC),.inr ⟨by cases b<;>rfl,by cases b<;>rfl⟩⟩
def UD (n:Bool) (i:Int):okC ⟨3,n⟩ ⟨false,i,[]⟩:=lY.2 ⟨Af (show(1:Int)<=3/\(3:Int)<=5 from dC),.inr ⟨rfl,by simp[isC]⟩⟩
def Ov (h:okC t c) (hk:t.kind=1):(c=bF/\t.null=true)\/c=gW false\/c=gW true:=by
 rcases (lY.1 h).2 with⟨_,h2,h3⟩ | ⟨h1,h2⟩
 .exact .inl ⟨h3,h2⟩
 right
 rw[hk]at h2;unfold isC at h2;rw[zac rfl]at h2;obtain⟨h3,h4,h5⟩:=zbd h2
 by_cases h0:c.n=0
 .left;exact aC.ext' h1 h0 h3
 right;exact aC.ext' h1 (show c.n=1 from oM) h3
def Ow (h:okC t c):c.s.length<=1024:=by
 rcases (lY.1 h).2 with⟨_,_,h3⟩ | ⟨h1,h2⟩
 .rw[h3];simp[bF]
 unfold isC at h2
 repeat' split at h2
 all_goals first
  | (have:=zbd h2;omega)
  | (have h3:=zbd h2;first | (rw[h3.1];simp) | (rw[h3];simp))
def Ce (h:okC t c) (hn:c.null=true):t.null=true/\c=bF:=by
 rcases (lY.1 h).2 with⟨_,h2,h3⟩ | ⟨h1,h2⟩
 .exact⟨h2,h3⟩
 rw[h1]at hn;cases hn
def aj5 {t':bM} (h:okC t c) (hk:t'.kind=t.kind) (hn:t.null=true->t'.null=true):okC t' c:=by
 obtain⟨h1,h2⟩:=lY.1 h;refine lY.2 ⟨Af (by rw[hk];exact X4 h1),?_⟩
 rcases h2 with⟨a,b,d⟩ | ⟨a,b⟩
 .exact .inl ⟨a,hn b,d⟩
 exact .inr ⟨a,by rw[hk];exact b⟩
def X5 {a b:aC} (h:a.null=b.null):nk a b=0↔a=b:=by
 constructor
 .intro e
  unfold nk at e;rw[zac h]at e
  split at e
  .cases e
  split at e
  .cases e
  exact aC.ext' h oM (Oh e)
 rintro rfl;unfold nk;rw[zac rfl,zab (Int.lt_irrefl _),zab (Int.lt_irrefl _),Oi]
def ahQ {tb:bM} (ha:okC ta a) (hb:okC tb b) (hka:ta.kind=1) (hkb:tb.kind=1) (hk:k=13\/k=14\/k=15):JM k a b=vH k a b:=by
 rcases Ov ha hka with⟨rfl,_⟩ | rfl | rfl<;>rcases Ov hb hkb with⟨rfl,_⟩ | rfl | rfl<;>rcases hk with rfl | rfl | rfl<;>decide
def ahR {tb:bM} (ha:okC ta a) (hb:okC tb b) (hka:ta.kind=1) (hkb:tb.kind=1):okC ⟨1,ta.null||tb.null⟩ (vH k a b):=by
 unfold vH
 repeat' split
 .exact y7 _ _
 .exact y7 _ _
 .rename_i h
  have :(ta.null||tb.null)=true:=by
   rcases h with h | h
   .rw[(Ce ha (by rw[h];rfl)).1];rfl
   rw[(Ce hb (by rw[h];rfl)).1];simp
  rw[this];exact y5 ⟨dC,dC⟩
 .exact y7 _ _
 exact y7 _ _
def UE {tb:bM} (ha:okC ta a) (hb:okC tb b) (h:a.null=true\/b.null=true):(ta.null||tb.null)=true:=by
 rcases h with h | h
 .rw[(Ce ha h).1];rfl
 rw[(Ce hb h).1];simp
def aml {tb:bM} {n:Int} (ha:okC ta a) (hb:okC tb b): ∀c,(if a.null=true\/b.null=true then some bF else Du n)=some c->okC ⟨3,ta.null||tb.null⟩ c/\fits c.n:=by
 intro c hc
 split at hc
 .rename_i h
  injection hc with hc
  subst hc;rw[UE ha hb h];exact⟨y5 dC,dC,dC⟩
 unfold Du at hc
 split at hc
 .rename_i hf
  injection hc with hc
  subst hc;have h: -9223372036854775808<=n/\n<=9223372036854775807:=zbd hf;exact⟨UD _ _,h⟩
 cases hc
def JN (b:Bool):fits (gW b).n:=by cases b<;>exact⟨dC,dC⟩
def ab1 {tb:bM} {f:Bool} (ha:okC ta a) (hb:okC tb b): ∀c,(if a.null=true\/b.null=true then some bF else some (gW f))=some c->okC ⟨1,ta.null||tb.null⟩ c/\fits c.n:=by
 intro c hc
 split at hc
 .rename_i h
  injection hc with hc
  subst hc;rw[UE ha hb h];exact⟨y5 dC,dC,dC⟩
 injection hc with hc
 subst hc;exact⟨y7 _ _,JN _⟩
def aaA:fits (vH k a b).n:=by
 unfold vH
 repeat' split
 all_goals first | exact JN _ | exact⟨dC,dC⟩
def aaB {tb:bM} (hk:7<=k/\k<=18) (ht:vG k ta tb=some t) (ha:okC ta a) (hb:okC tb b) (hfa:fits a.n) (hfb:fits b.n):
    jX k a b=jl k a b/\∀c,jl k a b=some c->okC t c/\fits c.n:=by
  have hc:k=7\/k=8\/k=9\/k=10\/k=11\/k=12\/k=13\/k=14\/k=15\/k=16\/k=17\/k=18:=oM
  have aky: ∀n:Int,jX k a b=(if a.null=true\/b.null=true then some bF else Du n)->jl k a b=(if a.null=true\/b.null=true then some bF else Du n)->(if ta.kind=3/\tb.kind=3 then some (⟨3,ta.null||tb.null⟩:bM)else none)=some t->jX k a b=jl k a b/\∀c,jl k a b=some c->okC t c/\fits c.n:=by
    intro n h1 h2 h3;rw[h1,h2]
    split at h3
    . injection h3 with h3
      subst h3;exact⟨rfl,aml ha hb⟩
    cases h3
  have am7:(k=13\/k=14\/k=15)->(if ta.kind=1/\tb.kind=1 then some (⟨1,ta.null||tb.null⟩:bM)else none)=some t->jX k a b=jl k a b/\∀c,jl k a b=some c->okC t c/\fits c.n:=by
    intro h1 h3
    split at h3
    . rename_i bZ
      injection h3 with h3
      subst h3;have e1:jX k a b=some (JM k a b):=zac h1;have e2:jl k a b=some (vH k a b):=zac h1;rw[e1,e2,ahQ ha hb bZ.1 bZ.2 h1];refine⟨rfl,λc hc=>?_⟩;injection hc with hc
      subst hc;exact⟨ahR ha hb bZ.1 bZ.2,aaA⟩
    cases h3
  rcases hc with rfl | rfl | rfl | rfl | rfl | rfl | rfl | rfl | rfl | rfl | rfl | rfl
  . exact aky (a.n+b.n) (by unfold jX;simp) (by unfold jl Du;simp) ht
  . exact aky (a.n-b.n) (by unfold jX;simp) (by unfold jl Du;simp) ht
  . exact aky (a.n*b.n) (by unfold jX;simp) (by unfold jl Du;simp) ht
  . exact aky (-a.n) (by unfold jX;simp) (by unfold jl Du;simp) ht
  . have e2:jl 11 a b=(if a.null=true\/b.null=true then some bF else some (gW (decide (nk a b=0)))):=by unfold jl;simp
    have e1:jX 11 a b=(if a.null=true\/b.null=true then some bF else some (gW (decide (a=b)))):=by unfold jX;simp
    have h3:(if ta.kind=tb.kind then some (⟨1,ta.null||tb.null⟩:bM)else none)=some t:=ht
    split at h3
    . injection h3 with h3
      subst h3;refine⟨?_,by rw[e2];exact ab1 ha hb⟩;rw[e1,e2]
      split
      . rfl
      rename_i hn;have hz:=X5 (a:=a) (b:=b) (by cases h1:a.null<;>cases h2:b.null<;>simp[h1,h2]at hn ⊢);simp only[hz]
    cases h3
  . have e2:jl 12 a b=(if a.null=true\/b.null=true then some bF else some (gW (decide (nk a b<0)))):=by unfold jl;simp
    have e1:jX 12 a b=(if a.null=true\/b.null=true then some bF else some (gW (decide (nk a b<0)))):=by unfold jX;simp
    have h3:(if ta.kind=tb.kind then some (⟨1,ta.null||tb.null⟩:bM)else none)=some t:=ht
    split at h3
    . injection h3 with h3
      subst h3;exact⟨by rw[e1,e2],by rw[e2];exact ab1 ha hb⟩
    cases h3
  . exact am7 dC ht
  . exact am7 dC ht
  . exact am7 dC ht
  . have e1:jX 16 a b=some (gW a.null):=by unfold jX;simp
    have e2:jl 16 a b=some (gW a.null):=by unfold jl;simp
    have h3:some (⟨1,false⟩:bM)=some t:=ht;injection h3 with h3
    subst h3;rw[e1,e2];refine⟨rfl,λc hc=>?_⟩;injection hc with hc
    subst hc;exact⟨y7 _ _,JN _⟩
  . have e1:jX 17 a b=some (if a.null=true then b else a):=by unfold jX;simp
    have e2:jl 17 a b=some (if a.null=true then b else a):=by unfold jl;simp
    have h3:(if ta.kind=tb.kind then some (⟨ta.kind,ta.null&&tb.null⟩:bM)else none)=some t:=ht
    split at h3
    . rename_i bZ
      injection h3 with h3
      subst h3;rw[e1,e2];refine⟨rfl,λc hc=>?_⟩;injection hc with hc
      subst hc
      split
      . rename_i hn
        exact⟨aj5 hb bZ (λh=>by show(ta.null&&tb.null)=true;rw[(Ce ha hn).1,h];rfl),hfb⟩
      rename_i hn;refine⟨lY.2 ⟨Af (X4 (lY.1 ha).1),.inr ?_⟩,hfa⟩
      rcases (lY.1 ha).2 with⟨h1,_⟩ | h2
      . exact zar h1 hn
      exact h2
    cases h3
  have e1:jX 18 a b=(if a.null=true\/b.null=true then some bF else some ⟨false,a.s.length,[]⟩):=by unfold jX;simp
  have e2:jl 18 a b=(if a.null=true\/b.null=true then some bF else some ⟨false,a.s.length,[]⟩):=by unfold jl;simp
  have h3:(if ta.kind=4\/ta.kind=5 then some (⟨3,ta.null||tb.null⟩:bM)else none)=some t:=ht
  split at h3
  . injection h3 with h3
    subst h3;rw[e1,e2];refine⟨rfl,λc hc=>?_⟩
    split at hc
    . rename_i h
      injection hc with hc
      subst hc;rw[UE ha hb h];exact⟨y5 dC,dC,dC⟩
    injection hc with hc
    subst hc;have:=Ow ha;exact⟨UD _ _,by show(-9223372036854775808:Int)<=a.s.length;omega,by show(a.s.length:Int)<=9223372036854775807;omega⟩
  cases h3

section
variable {w:Wd}
end
def aeU (s:L8):(vF s).length<=6*s.length+2:=by
 have h:=BR (f:=jy) (k:=6) (λc=>by unfold jy;(repeat' split)<;>simp) s;unfold vF;simp only[zas,zad,zcb];omega
def ahS (h:7<=k) (h2:k<=18):lN[(k-7).toNat]? =some (lN.getD (k-7).toNat []):=by
 rw[zax];have :(k-7).toNat<lN.length:=by show _<12;omega
 rw[zaa this];rfl
section
variable {w:Wd}
end
def uf {α:Type} {l:List α} {p:α->Bool} {j:Nat} {x:α} (h: ∀(i:Nat) y,i<j->l[i]? =some y->p y=false) (hj:l[j]? =some x) (hp:p x=true):l.findIdx? p=some j:=by
 rw[zcu];obtain⟨h1,h2⟩:=zbb.1 hj;refine⟨h1,by rw[h2];exact hp,λi hi=>?_⟩;rw[h i _ hi (zaa oM)];simp
def qO {α:Type} {l:List α} {p:α->Bool} (h: ∀(i:Nat) y,l[i]? =some y->p y=false):l.findIdx? p=none:=by
 rw[zcx];intro x hx;obtain⟨i,hi⟩:=zdb hx;exact h i x hi
def X6 {x:bI} (h:dP x=true) (hf:fits x.n):(gU x).length<=6146:=(N9 h hf.1 hf.2).1
attribute [local irreducible] dP gU
section
variable {w:Wd}
end
end
section
attribute [local irreducible] Uv dP gU
section
variable {w:Wd}
end
end
section
def UF (s:L8) (c:UInt8):s.count c<=s.length:=List.count_le_length
attribute [local irreducible] dP gU cB readAll
section
variable {w:Wd}
end
end
def jw (r:List aC):Prop:=∀c∈r,fits c.n
def aaC (h:fH cols r=0):cols.length=r.length/\∀(i:Nat) a c,cols[i]? =some a->r[i]? =some c->okC a.type c:=by
  have hl:cols.length=r.length:=by
    refine Classical.byContradiction λhn=>?_;unfold fH at h;rw[zac hn]at h;cases h
  refine⟨hl,λi a c ha hc=>?_⟩
  have key: ∀j,qN cols r j=0->∀i,j<=i->qN cols r i=0:=by
    intro j hj i hi
    induction i with
    | zero=>
     have :j=0:=oM;subst this;exact hj
    | succ i ih=>
      by_cases hji:j=i+1
      . rw[<-hji];exact hj
      have h0:=ih oM
      rcases zdm i r.length with aS | hge
      . obtain⟨c,hc⟩:=get_some aS
        obtain⟨a,ha⟩:=get_some (l:=cols) (i:=i) oM;rw[xJ ha hc]at h0
        split at h0
        . rename_i h1;exact zar h0 h1
        exact h0
      exact EC oM
  have h0:=key 0 (by rw[<-Cb hl];exact h) i (zak _);rw[xJ ha hc]at h0
  split at h0
  . rename_i h1;exact zar h0 h1
  rename_i h1;exact Classical.byContradiction λhn=>h1 hn
def vK (cols:List bY) (r:List aC) (x:bI):aC:=if x.kind=1 then r.getD ((og cols x.n).getD 0) cell0 else if x.kind=6 then bF else⟨false,x.n,x.s⟩
def aaD {x:bI} (hr:fH cols r=0) (hf:jw r) (hx:fits x.n) (hm:dP x=true) (hk:x.kind<7) (ht:qL cols x=some t):okC t (vK cols r x)/\fits (vK cols r x).n:=by
 obtain⟨hl,eZ⟩:=aaC hr
 have bZ:1<=x.kind:=by
  unfold dP at hm
  repeat' split at hm
  all_goals first | omega | (have:=zbd hm;omega)
 unfold vK;unfold qL at ht;unfold dP at hm
 by_cases h1:x.kind=1
 .rw[zac h1]at ht |-
  cases vM:og cols x.n with
  | none=>rw[vM]at ht;cases ht
  | some i=>
   rw[vM]at ht;have aS:=Gi vM;obtain⟨a,ha⟩:=get_some aS;obtain⟨c,hc⟩:=get_some (l:=r) (i:=i) oM;have hgd:cols.getD i ⟨0,[],gT,cell0⟩=a:=jr ha;simp only[zde,hgd]at ht ⊢;rw[jr hc];have hac:=eZ i a c ha hc;have hfx:fits c.n:=hf c (zag hc)
   split at ht
   .cases ht
   injection ht with ht
   subst ht
   split
   .rename_i h2
    refine⟨?_,hfx⟩
    rcases (lY.1 hac).2 with⟨b1,b2,b3⟩ | ⟨b1,b2⟩
    .rw[b2,b3];exact y5 dC
    rw[h2]at b2;unfold isC at b2;rw[zab dC,zac rfl]at b2;have b3:=zbd b2;exact lY.2 ⟨Af (show(1:Int)<=3/\(3:Int)<=5 from dC),.inr ⟨b1,by simp[isC,b3.1]⟩⟩
   exact⟨hac,hfx⟩
 rw[zab h1]at ht hm |-
 by_cases h2:x.kind=2
 .rw[zac h2]at ht hm
  rw[zab oM];injection ht with ht
  subst ht;have hs:x.s=[]:=zbd hm;rw[hs];exact⟨UD _ _,hx⟩
 rw[zab h2]at ht hm
 by_cases h3:x.kind=3
 .rw[zac h3]at ht hm
  rw[zab oM];injection ht with ht
  subst ht;have hs:=zbd hm;exact⟨lY.2 ⟨Af (show(1:Int)<=1/\(1:Int)<=5 from dC),.inr ⟨rfl,by simp[isC];exact hs⟩⟩,hx⟩
 rw[zab h3]at ht hm
 by_cases h4:x.kind=4
 .rw[zac h4]at ht hm
  rw[zab oM];injection ht with ht
  subst ht;have hs:=zbd hm;exact⟨lY.2 ⟨Af (show(1:Int)<=4/\(4:Int)<=5 from dC),.inr ⟨rfl,by simp[isC];exact hs⟩⟩,hx⟩
 rw[zab h4]at ht hm
 by_cases h5:x.kind=5
 .rw[zac h5]at ht hm
  rw[zab oM];injection ht with ht
  subst ht;have hs:=zbd hm;exact⟨lY.2 ⟨Af (show(1:Int)<=5/\(5:Int)<=5 from dC),.inr ⟨rfl,by simp[isC];exact hs⟩⟩,hx⟩
 rw[zab h5]at ht hm;rw[zac oM]at hm;rw[zac oM];injection ht with ht
 subst ht;have hs:=zbd hm;exact⟨y5 oM,dC,dC⟩
def Typed (ts:List bM) (st:List aC):Prop:=ts.length=st.length/\∀(i:Nat) t c,ts[i]? =some t->st[i]? =some c->okC t c/\fits c.n
def Typed.push {ts:List bM} {st:List aC} (h:Typed ts st) {m:Nat} {t:bM} {c:aC} (hm:m<=st.length) (hc:okC t c/\fits c.n):Typed (ts.take m++[t]) (st.take m++[c]):=by
 obtain⟨h1,h2⟩:=h;have e1:(ts.take m).length=m:=by rw[zah];omega
 have e2:(st.take m).length=m:=by rw[zah];omega
 refine⟨by simp[h1],λi t' c' ht hc'=>?_⟩
 rcases zdm i m with hi | hi
 .rw[zcj oM,zcs,zac hi]at ht hc'
  exact h2 i t' c' ht hc'
 rw[zby oM,e1]at ht;rw[zby oM,e2]at hc';cases hd:i-m with
 | zero=>
  rw[hd]at ht hc';simp at ht hc';rw[<-ht,<-hc'];exact hc
 | succ j=>rw[hd]at ht;simp at ht
def Typed.nil:Typed [] []:=⟨rfl,λi t c h=>by simp at h⟩
def amm {x:bI} (h:dP x=true):1<=x.kind/\x.kind<=18:=by
 unfold dP at h
 repeat' split at h
 all_goals first | omega | (have:=zbd h;omega)
def ahT (cols:List bY) (r:List aC) (st:List aC) (x:bI):Option aC:=
 if dF x.kind=0 then some (vK cols r x)else jX x.kind (st.getD (st.length-dF x.kind) cell0) (st.getD (st.length-1) cell0)
def Cg (k:Int):dA k=0↔k<7:=by
 unfold dA
 repeat' split
 all_goals omega
def Ox {x:bI} {ts ts':List bM} {st:List aC} (hr:fH cols r=0) (hf:jw r) (hx:fits x.n) (hT:Typed ts st) (hs:stepT cols ts x=some ts'):
    abX cols r st x=(ahT cols r st x).map (λc=>st.take (st.length-dF x.kind)++[c])/\∀c,ahT cols r st x=some c->Typed ts' (st.take (st.length-dF x.kind)++[c])/\fits c.n:=by
  have l9:=λh=>Cc (cols:=cols) (st:=ts) (x:=x) h
  have hm:dP x=true:=by
    cases h:dP x with
    | true=>rfl
    | false=>rw[l9 (.inl h)]at hs;cases hs
  have rG:dF x.kind<=ts.length:=by
    refine Classical.byContradiction λh=>?_;rw[l9 (.inr oM)]at hs;cases hs
  rw[RB hm rG]at hs;obtain⟨t,ht,hts⟩:=zbc.1 hs;subst hts;have hlen:=hT.1;unfold resT at ht;unfold abX ahT;have xY:=Dk hm;rw[<-xY];dsimp only
  by_cases h0:dF x.kind=0
  . rw[zac h0]at ht
    rw[zac h0,zac h0];have hl:=aaD hr hf hx hm ((Cg _).1 (by rw[<-xY];exact h0)) ht;refine⟨rfl,λc hc=>?_⟩;injection hc with hc
    subst hc;rw[hlen];exact⟨hT.push oM hl,hl.2⟩
  rw[zab h0]at ht;rw[zab h0,zab h0]
  have hk7:7<=x.kind:=by
    refine Classical.byContradiction λh=>h0 ?_;rw[xY];exact(Cg _).2 oM
  obtain⟨a,ha⟩:=get_some (l:=st) (i:=st.length-dF x.kind) oM;obtain⟨b,hb⟩:=get_some (l:=st) (i:=st.length-1) oM;obtain⟨ta,Yx⟩:=get_some (l:=ts) (i:=ts.length-dF x.kind) oM;obtain⟨tb,UY⟩:=get_some (l:=ts) (i:=ts.length-1) oM;rw[jr Yx,jr UY]at ht;rw[jr ha,jr hb];have oa:=hT.2 (st.length-dF x.kind) ta a (by rw[<-hlen];exact Yx) ha;have ob:=hT.2 (st.length-1) tb b (by rw[<-hlen];exact UY) hb;obtain⟨e1,e2⟩:=aaB ⟨hk7,(amm hm).2⟩ ht oa.1 ob.1 oa.2 ob.2;rw[e1];refine⟨rfl,λc hc=>?_⟩;have:=e2 c hc;rw[hlen];exact⟨hT.push oM this,this.2⟩
end
end Go.Proofs.Mw
