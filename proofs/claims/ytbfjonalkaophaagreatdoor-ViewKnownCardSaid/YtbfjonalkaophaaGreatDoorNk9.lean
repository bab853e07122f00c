/-
 append onto a row that is full:the answer is new. Rows of numbers and of texts.
-/
import Derived.Test.YtbfjonalkaophaaGreatDoorNk8
set_option linter.all false
set_option maxRecDepth 4000
namespace Go.Proofs.Mw
variable {v z:Value} {x y:Od} {bytes d:Nat} {w:Wd} {A:OA}
open Go.RowKit
section
section
variable {α:Type} {enc:α->LV} {k e:Nat} {l news:List α} {A B:OA} {w w' w0:Wd} {S:NP} {rs:List HP}
def agY {b s n:Nat} {x:LV} (h:w.ownsRow b e s v n x):w.ownsRow 0 e s v n x:=by
 refine⟨h.1,?_⟩
 rcases h.2 with a | ⟨g,cap,c,d,_,r⟩
 .exact .inl a
 exact .inr ⟨g,cap,c,d,zai _,r⟩
def Oc (h:w.grownBy w' none):aS noB w w':=⟨h.os,h.tape,h.output,h.size,λk a _=>h.block k a λe=>by cases e⟩
def OX {P:Program} {ρ:Od->Value} {ty:Td} {t c bytes:Nat} [Q:dR P t e] [Z:Cells P e k bytes] [hz:Zero P e z] [hk:jl enc k]
    (H:Sep w0 S rs w) (hx:ρ x=.slice A l.length l.length) (R:Rd w A enc k l) (hy:ρ y=.slice B news.length c) (m:Rd w B enc k news) (G: ∀u∈news.flatMap enc,u.oneCell'=true)
    (E:0<k) (J:z.cells.size=k) (O:0<news.length) (C:l.length+news.length<=maxLen) (f:(l.length+news.length)*bytes<=140737488355328):
    ∃v w',ah P ρ (.call {callee:=.builtin .append,args:= #[x,y],argTypes:= #[t,t]}) ty w v w'/\Sep w0 S (aY e k enc v (l++news)::rs) w'/\aS noB w w':=by
  have q: ∀v w',(Builtin.append_ #[t,t] ty #[.slice A l.length l.length,.slice B news.length c]).run P w=.ok v w'->w'.ownsRow 0 e k v (l.length+news.length) (l.flatMap enc++news.flatMap enc)->aS noB w w'->(∀b,v.ownBlock=some b->w.heap.size<=b)->
      ∃v w',ah P ρ (.call {callee:=.builtin .append,args:= #[x,y],argTypes:= #[t,t]}) ty w v w'/\Sep w0 S (aY e k enc v (l++news)::rs) w'/\aS noB w w':=by
    intro v w' d a F D;refine⟨v,w',λ_ _ _ _=>?_,H.new (F':=λb=>v.ownBlock=some b) F ⟨?_,λb=>Iff.rfl⟩ D,F⟩
    . simp only[execOp,resolve,invoke,builtin,zbj,zbl,zar,zch,zbc,zcn,hx,hy,d]
    show w'.ownsRow 0 e k v (l++news).length ((l++news).flatMap enc)
    rw[zad,zbu];exact a
  cases A with
  | none=>
    have n:l=[]:=by
      rcases zeh l.length with h | h
      . exact zbf h
      obtain⟨K,s⟩:=R.addr h;cases s
    subst n;obtain⟨v,w',d,a,N,D⟩:=vF (P:=P) (ty:=ty) t e E J (.slice none 0 0) 0 [] (World.ownsRow_nil w 0 e k) B news.length c (news.flatMap enc) m G C f;refine q v w' d a (Oc N) λb g=>?_
    rcases D with h | h
    . rw[h]at g;cases g
    rw[h]at g;injection g with g;omega
  | some K=>
    obtain⟨i,hi,o⟩:=zbb.1 Z.size;simp only[Prod.mk.injEq]at o
    have p:i.zero=some z:=by
      have:=hz.run w;simp[zeroValue,typeInfo,hi]at this;cases hq:i.zero with
      | none=>simp[hq]at this
      | some u=>simp[hq]at this;rw[this]
    obtain⟨W,Y,M⟩:=m.at_ O;subst Y
    have L: ∀j u,(l.flatMap enc)[j]? =some u->w.cell? (K.add j)=some u:=by
      intro j u T
      rcases zeh l.length with h | h
      . have r:=zbf h
        subst r;simp at T
      obtain⟨V,s,X⟩:=R.at_ h;injection s with s
      subst s;exact X j u T
    obtain⟨v,w',d,a,N⟩:=run_append_arg_grows (P:=P) w t ty e i z k bytes Q.und hi p o.1 o.2 J E K l.length l.length (l.flatMap enc) R.len L W news.length c (news.flatMap enc) m.len M oM C f;exact q v w' d (agY a) (Oc N) λb D=>(a.lt b D).1
end
section
variable {P:Program} {r:Option Nat} {n:Nat} {ops:AO} {Q:Post} {rest:LO} {σ:St} {w w' w0:Wd} {S:NP} {rs:List HP} {put:HP->List HP} {ty:Td} {pos:String} {after:Array Edge} {guard:Option (Nat×Bool)} {lv:List Bool} {pd:LNB} {α:Type} {enc:α->LV} {k e:Nat} {l news:List α} {A B:OA}
def Oe {t c:Nat} [J:dR P t e] [F:Cells P e k bytes] [K:Zero P e z] [G:jl enc k]
    (H:Sep w0 S rs w) (C:Rd w A enc k l) (m:Rd w B enc k news) (j:0<news.length) (f:l.length+news.length<=maxLen) (a:(l.length+news.length)*bytes<=140737488355328) (b: ∀u∈news.flatMap enc,u.oneCell'=true)
    (D:evF σ x=.slice A l.length l.length:=by exact rfl) (E:evF σ y=.slice B news.length c:=by exact rfl) (g:0<k:=by decide) (p:z.cells.size=k:=by exact rfl) (q:Nat.blt d n=true:=by exact rfl)
    (h: ∀v w',Sep w0 S (aY e k enc v (l++news)::rs) w'->aS noB w w'->FL P r n ops Q rest (upd σ d v) w'):
    FL P r n ops Q (⟨some d,.call {callee:=.builtin .append,args:= #[x,y],argTypes:= #[t,t]},ty,pos,after,none⟩::rest) σ w:=by
  obtain⟨v,w',s,o,i⟩:=OX (P:=P) (t:=t) (ty:=ty) H D C E m b g p j f a;exact eu s q (h v w' o i)
def Eb {P:Program} {F:Od->Value} {ty:Td} {t c bytes:Nat} [D:dR P t e] [s:Cells P e k bytes] [E:Zero P e z] [C:jl enc k]
    (H:Sep w0 S rs w) (p:F x=v) (q:F y=.slice B news.length c) (i:Rd w B enc k news) (f:At rs (aY e k enc v l) put) (b: ∀u∈news.flatMap enc,u.oneCell'=true)
    (g:0<k) (j:z.cells.size=k) (d:l.length+news.length<=maxLen) (h:(l.length+news.length)*bytes<=140737488355328):
    ∃a w',ah P F (.call {callee:=.builtin .append,args:= #[x,y],argTypes:= #[t,t]}) ty w a w'/\Sep w0 S (put (aY e k enc a (l++news))) w':=by
  obtain⟨a,w',o,m⟩:=Ai (P:=P) (t:=t) (ty:=ty) H p q f i b g j d h;refine⟨a,w',o,?_⟩;have e:aY e k enc a (l++news)=vE e k a (l.length+news.length) (l.flatMap enc++news.flatMap enc):=by unfold aY;rw[zad,zbu]
  rw[e];exact m
def mq {t c:Nat} [G:dR P t e] [E:Cells P e k bytes] [J:Zero P e z] [F:jl enc k]
    (H:Sep w0 S rs w) (i:At rs (aY e k enc v l) put) (m:Rd w B enc k news) (g:l.length+news.length<=maxLen) (a:(l.length+news.length)*bytes<=140737488355328) (b: ∀u∈news.flatMap enc,u.oneCell'=true)
    (C:evF σ x=v:=by exact rfl) (D:evF σ y=.slice B news.length c:=by exact rfl) (j:0<k:=by decide) (p:z.cells.size=k:=by exact rfl) (q:Nat.blt d n=true:=by exact rfl)
    (h: ∀f w',Sep w0 S (put (aY e k enc f (l++news))) w'->FL P r n ops Q rest (upd σ d f) w'):
    FL P r n ops Q (⟨some d,.call {callee:=.builtin .append,args:= #[x,y],argTypes:= #[t,t]},ty,pos,after,none⟩::rest) σ w:=by
  obtain⟨f,w',s,o⟩:=Eb (P:=P) (t:=t) (ty:=ty) H C D m i b j p g a;exact eu s q (h f w' o)
def JV (q:eY n ops=true) (i:Nat) (b:LNB) {t c bytes:Nat} [N:dR P t e] [L:Cells P e k bytes] [O:Zero P e z] [M:jl enc k]
    (H:Sep w0 S rs w) (j:At rs (aY e k enc v l) put) (C:Rd w B enc k news) (g:l.length+news.length<=maxLen) (a:(l.length+news.length)*bytes<=140737488355328) (f: ∀u∈news.flatMap enc,u.oneCell'=true)
    (F:ops[i]? =some ⟨some d,.call {callee:=.builtin .append,args:= #[x,y],argTypes:= #[t,t]},ty,pos,after,guard⟩:=by exact rfl)
    (G:Region.wanted ⟨some d,.call {callee:=.builtin .append,args:= #[x,y],argTypes:= #[t,t]},ty,pos,after,guard⟩ (dG ops σ)=true:=by kernel_rfl)
    (J:evF σ x=v:=by exact rfl) (K:evF σ y=.slice B news.length c:=by exact rfl) (o:0<k:=by decide) (D:z.cells.size=k:=by exact rfl)
    (m:gy ops lv (pd.map (·.1)) i=true:=by kernel_rfl) (s:pd.filter (λp=> !((above ops i).contains p.1))=b:=by exact pD)
    (h: ∀E w',Sep w0 S (put (aY e k enc E (l++news))) w'->jK P ops (upd σ d E) w' b/\FG P r n ops Q (lv.set i true) b (upd σ d E) w'):FG P r n ops Q lv pd σ w:=
  vJ q i b F G (Eb (P:=P) (t:=t) (ty:=ty) H J K C j f o D g a) m s h
end
section
variable {P:Program} {r:Option Nat} {n:Nat} {ops:AO} {Q:Post} {rest:LO} {σ:St} {w w' w0:Wd} {S:NP} {rs:List HP} {put:HP->List HP} {ty:Td} {pos:String} {after:Array Edge} {guard:Option (Nat×Bool)} {lv:List Bool} {pd:LNB} {α:Type} {enc:α->LV} {k e:Nat} {l news:List α} {A B:OA} {v:Value}
def dX (j:eY n ops=true) (i:Nat) (a:LNB) {t e:Td} {xs:List Od} {parts:List (Nat×Od)} {out:LV} {size:Nat} [E:dR P t e] [D:Cells P e size bytes] [F:Zero P e z] (H:Sep w0 S rs w) (o:dI (evF σ) size xs out)
    (q:ops[i]? =some ⟨some d,.buildSlice t xs.length parts.toArray,ty,pos,after,guard⟩:=by exact rfl)
    (y:Region.wanted ⟨some d,.buildSlice t xs.length parts.toArray,ty,pos,after,guard⟩ (dG ops σ)=true:=by kernel_rfl)
    (s:parts=(xs.zipIdx 0).map λp=>(p.2,p.1):=by exact rfl) (c:Nat.ble (xs.length*size) 16777216=true:=by exact rfl)
    (g:oK ops lv (pd.map (·.1)) i=true:=by kernel_rfl) (m:pd.filter (λp=> !((above ops i).contains p.1))=a:=by exact pD)
    (h: ∀b w',Sep w0 S (blk b out e::rs) w'->jK P ops (upd σ d (.slice (some ⟨b,0,none⟩) xs.length xs.length)) w' a/\FG P r n ops Q (lv.set i true) a (upd σ d (.slice (some ⟨b,0,none⟩) xs.length xs.length)) w'):pV P r n ops Q lv pd σ w i:=
  F8 j i a (C:=λv w'=>∃b,v=.slice (some ⟨b,0,none⟩) xs.length xs.length/\Sep w0 S (blk b out e::rs) w') q y ⟨_,_,ah.buildSlice o s c,_,rfl,H.alloc _⟩ g m λv w' ⟨b,u,f⟩=>by subst u;exact h b w' f
def Og (c:eY n ops=true) (e:Nat) (a:LNB) {f:FuncId} {x:List Od} {D:Array Td} {C:LV} (H:Sep w0 S rs w) (m:Rk P f C w v)
    (o:ops[e]? =some ⟨some d,.call {callee:=.value (.func f),args:=x.toArray,argTypes:=D},ty,pos,after,guard⟩:=by exact rfl)
    (s:Region.wanted ⟨some d,.call {callee:=.value (.func f),args:=x.toArray,argTypes:=D},ty,pos,after,guard⟩ (dG ops σ)=true:=by kernel_rfl) (q:x.map (evF σ)=C:=by exact rfl) (b:oK ops lv (pd.map (·.1)) e=true:=by kernel_rfl)
    (g:pd.filter (λp=> !((above ops e).contains p.1))=a:=by exact pD) (h: ∀w',Sep w0 S rs w'->aS noB w w'->jK P ops (upd σ d v) w' a/\FG P r n ops Q (lv.set e true) a (upd σ d v) w') (t:qB P f:=by exact eT):pV P r n ops Q lv pd σ w e:=
  JI c e a o s m q b g λu w' ⟨j,i⟩=>by subst j;exact h w' (H.aK i) i
end
def Rd.cut {α:Type} {enc:α->LV} {k:Nat} [b:jl enc k] {l:List α} (h:Rd w A enc k l) (m:Nat):Rd w A enc k (l.take m):=by
 refine⟨jh b.len _,λi=>?_⟩;have g:0<l.length:=by rw[zah]at i;omega
 obtain⟨c,d,f⟩:=h.at_ g;refine⟨c,d,λj u a=>f j u ?_⟩;rw[JU b.len,zcq]at a
 split at a
 .exact a
 cases a
def Rd.from {α:Type} {enc:α->LV} {k:Nat} [b:jl enc k] {l:List α} (h:Rd w A enc k l) (m:Nat):Rd w (A.map λa=>a.add (m*k)) enc k (l.drop m):=by
 refine⟨jh b.len _,λg=>?_⟩;rw[zbm]at g;obtain⟨c,d,f⟩:=h.at_ oM;subst d;refine⟨c.add (m*k),rfl,λj u i=>?_⟩;rw[add_add];refine f _ _ ?_;rw[<-i];have e:l.flatMap enc=(l.take m).flatMap enc++(l.drop m).flatMap enc:=by rw[<-zbu,zbs]
 have el:((l.take m).flatMap enc).length=m*k:=by rw[jh b.len,zah,zcf oM]
 rw[e,zbx oM,el,Nat.add_sub_cancel_left]
def Rd.nil {α:Type} {enc:α->LV} {k:Nat}:Rd w A enc k []:=⟨sM,λh=>zas h sM⟩
def Rd.alO {α:Type} {enc:α->LV} {k c:Nat} [d:jl enc k] {l:List α} (h:Rd w A enc k l) (m:Nat) (b:l.length<=c):Rd w (if c=m then A else A.map λa=>a.add (m*k)) enc k (l.drop m):=by
 split
 .rw[zbv oM];exact Rd.nil
 exact h.from m
end
def intCells (n:Int):LV:=[I n]
def gG (s:L8):LV:=[str s]
instance:jl intCells 1:=⟨λ_=>rfl⟩
instance:jl gG 1:=⟨λ_=>rfl⟩
def xg {α β:Type} (e k:Nat) (enc:α->LV) (val:β->Value) (row:β->List α) (l:List β):HP:=jA (l.map λx=>aY e k enc (val x) (row x))
section
variable {α β:Type} {enc:α->LV} {val:β->Value} {row:β->List α} {k e:Nat} {l:List β} {x:β} {w w0:Wd} {S:NP} {rs:List HP} {put:HP->List HP}
def Sep.abh (h:Sep w0 S rs w) (e k:Nat) (enc:α->LV) (val:β->Value) (row:β->List α):Sep w0 S (xg e k enc val row []::rs) w:=Sep.jY trivial h
def Sep.XG (h:Sep w0 S (aY e k enc (val x) (row x)::xg e k enc val row l::rs) w):Sep w0 S (xg e k enc val row (l++[x])::rs) w:=by
 refine Sep.imp h.aZ At0 λF a=>?_;obtain⟨f,g,a,d,b,c⟩:=a;unfold xg;rw[zan];exact Ed (l2:=[]) a d b (by rw[zbt];exact c)
end
variable {a b c:aF} {t ta:bZ} {k:Int} {cols:List bF} {l:List bH} {res:Option aF} {r:List aF}
open Go.Lib
section
attribute [local irreducible] FW FL FG FGn jX lg gD l7 Qfn ah
section
def resT (cols:List bF) (st:List bZ) (x:bH):Option bZ:=
 if eG x.kind=0 then iW cols x else vX x.kind (st.getD (st.length-eG x.kind) iq) (st.getD (st.length-1) iq)
def Ch {cols:List bF} {st:List bZ} {x:bH} (h:eX x=false\/st.length<eG x.kind):stepT cols st x=none:=by
 unfold stepT
 by_cases a:eX x=false
 .dsimp only;rw[zac (.inl a)]
 have b:eX x=true:=by simpa using a
 rw[Dv b]at h;dsimp only;rw[zac (h.imp id id)]
def Rf {cols:List bF} {s:List bZ} {x:bH} (h:eX x=true) (a:eG x.kind<=s.length):stepT cols s x=(resT cols s x).map λt=>s.take (s.length-eG x.kind)++[t]:=by
 unfold stepT resT;rw[Dv h]at a ⊢;dsimp only;rw[zab (by rw[h];simp;omega)]
def Rh (k:Int):eG k<=2:=by
 unfold eG
 repeat' split
 all_goals omega
def jP {α:Type} {l:List α} {i:Nat} {c d:α} (h:l[i]? =some c):l.getD i d=c:=by rw[zao,h];rfl
def eF {α:Type} {w0:Wd} {S:NP} {rs:List HP} {put:HP->List HP} {e k c:Nat} {enc:α->LV} {l:List α} {A:OA} (H:Sep w0 S rs w) (h:At rs (aY e k enc (.slice A l.length c) l) put):Rd w A enc k l:=Sep.rowAt H h
attribute [local irreducible] eX mX
section
variable {w:Wd}
theorem JW {vc vl:Value} (hc:aP w vc aL 7 cols) (hl:aP w vl aQ 3 l):Rk Tryz.prog 99 [vc,vl] w (.tuple #[agg (aG (gH cols l).1),I (gH cols l).2]):=by
  have X:=hc;obtain⟨A,m,rfl,⟨hm,Gj⟩,hA⟩:=hc;obtain⟨C,n,rfl,⟨hn,hn'⟩,hC⟩:=hl;have H:=Sep.aI w;obtain⟨r,ay⟩: ∃r,r=gH cols l:=⟨_,rfl⟩;rw[<-ay];unfold gH at ay;refine tQ Tryz.func99 ?_;refine Az (λN w2 H2 k1=>?_);refine Cz (λW=>?_) (λW=>?_)
  . have d:r=(iq,5):=by rw[ay,zac oM]
    refine Sr (Vb (aG iq) ?_);refine Tz (λwa Ha=>?_);refine V1 ?_;exact⟨_,dD Ha,by rw[d];rfl,Ha.au⟩
  rw[zab oM]at ay;refine V2 ?_;have L:=Sep.iX H2 46 2 aG;refine aM (λx:Nat×List bZ×Value=>[(0,.slice A cols.length m),(1,.slice C l.length n),(4,.pointer (some ⟨N,0,none⟩)),(6,x.2.2),(7,I x.1)]) (λx w'=>(x.1<=l.length/\x.2.1.length<=x.1/\runT cols x.2.1 (l.drop x.1)=runT cols [] l)/\Sep w noB [aY 46 2 aG x.2.2 x.2.1,blk N (aG iq) 46] w') (λx _=>l.length-x.1) (0,[],_) tR ⟨⟨zai _,zbk _,rfl⟩,L⟩ (λx τ wb hI=>?_);obtain⟨i,s,v0⟩:=x;obtain⟨⟨hi,P,c⟩,L⟩:=hI;dsimp only at hi P c L;obtain⟨B,cb,rfl,hcb,hB⟩:=Sep.bX L At0;refine Lp ?_;refine Cz (λIe=>?_) (λIe=>?_)
  . have u:i<l.length:=oM
    obtain⟨x,R⟩:=aN u
    have Y:l.drop i=x::l.drop (i+1):=by
      rw[zbn u];rw[zaa u]at R;injection R with R;rw[R]
    rw[Y,runT]at c;have htk:=Rh x.kind;refine V8 ?_;refine fF (Ob _) (h:=?_);refine Kz (adP _) (λwc Hc ka=>?_);refine V2 ?_;refine eO (t:=36) rfl (λV=>?_) (λV=>?_)
    . have o:eX x=false:=by simpa using V
      refine V1 ?_;refine Vb (aG iq) ?_;refine Tz (λwd Hd=>?_);refine V1 ?_;have D:stepT cols s x=none:=Ch (by first | (left;assumption) | (right;omega));rw[D]at c;rw[<-c]at ay;exact⟨_,dD Hd,by rw[ay];rfl,Hd.au⟩
    have o:eX x=true:=by simpa using V
    refine Cz (λIf=>?_) (λIf=>?_)
    . refine Sr (Vb (aG iq) ?_)
      refine Tz (λwe He=>?_);refine V1 ?_;have D:stepT cols s x=none:=Ch (by first | (left;assumption) | (right;omega));rw[D]at c;rw[<-c]at ay;exact⟨_,dD He,by rw[ay];rfl,He.au⟩
    have e:eG x.kind<=s.length:=oM;have K:=Rf (cols:=cols) o e;obtain⟨q,f⟩: ∃q,q=resT cols s x:=⟨_,rfl⟩;rw[<-f]at K;rw[K]at c;unfold resT at f;refine V0 ?_;refine Vb (aG iq) ?_;refine Az (λbt wf Hf _=>?_);refine Tz (λwg Hg=>?_);refine O1 ?_;refine Qn (dU (λz:bZ×Bool=>[(0,.slice A cols.length m),(1,.slice C l.length n),(4,.pointer (some ⟨N,0,none⟩)),(6,.slice B s.length cb),(7,I i),(8,I s.length),(9,I (eG x.kind)),(10,.pointer (some ⟨bt,0,none⟩)),(11,.bool z.2)]) (λz w'=>(z.2=q.isSome/\∀y,q=some y->z.1=y)/\Sep w noB [blk bt (aG z.1) 46,aY 46 2 aG (.slice B s.length cb) s,blk N (aG iq) 46] w') ?_ ?_)
    . refine Cz (λIg=>?_) (λIg=>?_)
      . rw[zac oM]at f
        refine Kz (adT x (X.aK Hg.au)) (λwh Hh kb=>?_);refine Tz (λwi Hi=>?_);refine V1 ?_;exact aA ((iW cols x).getD iq,(iW cols x).isSome) tR ⟨⟨by rw[f],λy F=>by rw[<-f,F];rfl⟩,Hi⟩
      have hk1:1<=eG x.kind:=oM;obtain⟨a,ha⟩:=aN (l:=s) (i:=s.length-eG x.kind) oM;obtain⟨b,hb⟩:=aN (l:=s) (i:=s.length-1) oM;rw[zab oM,jP ha,jP hb]at f;refine Dz (λS wj T=>?_);refine V8 ?_;refine Gc S 8 ((s.length-eG x.kind:Nat):Int) ?_;refine V1 ?_;refine GS (Gt rfl (ah.iK rfl (eF T At1) ha) ?_);refine V2 ?_;refine Gc S 13 ((s.length-1:Nat):Int) ?_;refine V1 ?_;refine GS (Gt rfl (ah.iK rfl (eF T At1) hb) ?_);refine p8 S 16 [] rfl kR (adU x.kind a b) rfl kR kR (λv' wk hv=>?_);obtain⟨⟨t,rfl,O⟩,k⟩:=hv;have Hk:=T.aK k;refine⟨sT,?_⟩;refine V3 ?_;refine cu S 20 _ Hk (h:=λwl Hl=>⟨sT,?_⟩);refine V1 ?_;exact aA (t,(vX x.kind a b).isSome) tR ⟨⟨by rw[f],λy F=>O y (by rw[<-f];exact F)⟩,Hl⟩
    rintro⟨t,ok⟩ τ wm ⟨⟨g,p⟩,Hm⟩;dsimp only at g p Hm;refine Lp ?_;refine O2 ?_;refine Qn (Cd rfl (λG=>?_) (λG=>?_))
    . have v:q=none:=by
        cases q with
        | none=>rfl
        | some y=>rw[g]at G;cases G
      rw[v]at c;have j:none=runT cols [] l:=c;rw[<-j]at ay;have d:r=(iq,220):=ay;refine Sr (Vb (aG iq) ?_);refine Tz (λwn Hn=>?_);refine V1 ?_;exact⟨_,dD Hn,by rw[d];rfl,Hn.au⟩
    obtain⟨y,F⟩: ∃y,q=some y:=by
      cases q with
      | none=>rw[g]at G;cases G
      | some y=>exact⟨y,rfl⟩
    have Q:=p y F;subst Q;rw[F]at c;have j:runT cols (s.take (s.length-eG x.kind)++[t]) (l.drop (i+1))=runT cols [] l:=c;refine Dz (λM wo Ho=>?_);refine V3 ?_;refine Gc M 3 ((s.length-eG x.kind:Nat):Int) ?_;refine V2 ?_;refine Gz M 6 _ Ho ([t].flatMap aG) (h:=λb wp Hp=>⟨sT,?_⟩);have J:=Sep.alN (m:=s.length-eG x.kind) Hp At2 oM;have E:(s.take (s.length-eG x.kind)).length=s.length-eG x.kind:=by rw[zah];omega
    refine gZ M 7 _ J (news:=[t]) At1 (by rw[E];unfold maxLen;simp;omega) (by rw[E];simp;omega) (dW (λ_=>rfl) [t]) (h:=λv2 wq Hq=>⟨sT,?_⟩);refine rA M 8 _ (h:=⟨sT,?_⟩);refine V3 ?_;exact ak (i+1,s.take (s.length-eG x.kind)++[t],v2) tR ⟨⟨dO,by dsimp only;rw[zad,E];simp;omega,j⟩,Hq.bN⟩ dO
  have Z:i=l.length:=oM;rw[Z,zds,runT]at c;rw[<-c]at ay;refine Cz (λIi=>?_) (λIi=>?_)
  . have d:r=(iq,220):=by
      rw[ay]
      match s,Ii with
      | [],_=>rfl
      | [_],h=>exact zas rfl h
      | _::_::_,_=>rfl
    refine Sr (Vb (aG iq) ?_);refine Tz (λwr Hr=>?_);refine V1 ?_;exact⟨_,dD Hr,by rw[d];rfl,Hr.au⟩
  have h1:s.length=1:=oM;obtain⟨t,O⟩:=zfq.1 h1;have hg:s[0]? =some t:=by rw[O];rfl
  have d:r=(t,0):=by rw[ay,O]
  refine V1 ?_;refine Vv (ah.fT (i:=0) rfl rfl hB oM) (Vv (ah.iK (i:=0) rfl hB hg) ?_);refine Tz (λws Hs=>?_);refine V1 ?_;exact⟨_,dD Hs,by rw[d];rfl,Hs.au⟩
end
end
open Go.Proofs.Tryz
section
def XH {n b:Int} (f: -9223372036854775808<=n/\n<=9223372036854775807) (i:b≠0) (j:b≠ -1): -9223372036854775808<=n.tdiv b/\n.tdiv b<=9223372036854775807:=by
 by_cases c:b=1
 .subst c;rw[Int.tdiv_one];exact f
 have e:(n.tdiv b).natAbs=n.natAbs/b.natAbs:=Int.natAbs_tdiv n b;have h:2<=b.natAbs:=oM;have a:n.natAbs/b.natAbs<=n.natAbs/2:=Nat.div_le_div_left h dC;obtain⟨q,g⟩: ∃q,q=n.natAbs/b.natAbs:=⟨_,rfl⟩;obtain⟨m,d⟩: ∃m,m=n.tdiv b:=⟨_,rfl⟩;rw[<-g]at e a;rw[<-d]at e ⊢;omega
def Ri {a b:Int} (g:b≠0) (o: -9223372036854775808<=b/\b<=9223372036854775807):(IntKind.i64.wrap (a*b)).tdiv b=a↔bM (a*b)=true:=by
 obtain⟨p,c⟩: ∃p,p=a*b:=⟨_,rfl⟩;rw[<-c];constructor
 .intro h
  refine zau ?_;obtain⟨n,d⟩: ∃n,n=IntKind.i64.wrap p:=⟨_,rfl⟩;rw[<-d]at h;have i:=(Int.mul_tdiv_add_tmod n b).symm;have j:(n.tmod b).natAbs=n.natAbs%b.natAbs:=Int.natAbs_tmod n b;have m:n.natAbs%b.natAbs<b.natAbs:=Nat.mod_lt _ oM;rw[h,Int.mul_comm,<-c]at i;rw[IntKind.wrap_i64]at d;omega
 intro h;have f:=zbe h;rw[wrap64 f,c,Int.mul_tdiv_cancel _ g]
def JX (k:Int) (a b:aF):aF:=
 if k=13/\((a.null=false/\a.n=0)\/(b.null=false/\b.n=0))then iw false
 else if k=14/\(a.n=1\/b.n=1)then iw true
 else if a.null=true\/b.null=true then cK
 else if k=15 then iw (decide (a.n=0))
 else iw (decide (k=13))
section
variable {w:Wd}
def Gi (a b:Int) (t:cB a) (z:cB b):aX prog 326 [I a,I b] w λv w'=>(∃c,v=.tuple #[I c,.bool (bM (a*b))]/\(bM (a*b)=true->c=a*b))/\aS noB w w':=by
 have H:=Sep.aI w;obtain⟨u,y⟩:=t;obtain⟨g,i⟩:=z;refine dn func326 ?_;refine Sz (λm=>?_) (λm=>?_)
 .refine V3 ?_
  have d:a*b=0:=by first | (rw[show a=0 from oM];simp) | (rw[show b=0 from oM];simp)
  rw[d];exact⟨⟨0,rfl,λ_=>rfl⟩,H.au⟩
 refine Cz (λp=>?_) (λp=>?_)
 .refine V2 ?_
  have d:a*b=0:=by first | (rw[show a=0 from oM];simp) | (rw[show b=0 from oM];simp)
  rw[d];exact⟨⟨0,rfl,λ_=>rfl⟩,H.au⟩
 refine Cz (λq=>?_) (λq=>?_)
 .refine V1 ?_
  refine Vv (ah.aiC (c:=IntKind.i64.wrap (0-b)) rfl rfl) (V4 ?_);have d:a*b= -b:=by rw[show a= -1 from oM];simp
  rw[d];have f:bM (-b)=decide (b≠ -9223372036854775808):=by unfold bM;rw[zbg];omega
  rw[f];exact⟨⟨IntKind.i64.wrap (0-b),rfl,λh=>by have:=zbe h;rw[wrap64 oM];omega⟩,H.au⟩
 refine Cz (λs=>?_) (λs=>?_)
 .refine V1 ?_
  refine Vv (ah.aiC (c:=IntKind.i64.wrap (0-a)) rfl rfl) (V4 ?_);have d:a*b= -a:=by rw[show b= -1 from oM];simp
  rw[d];have f:bM (-a)=decide (a≠ -9223372036854775808):=by unfold bM;rw[zbg];omega
  rw[f];exact⟨⟨IntKind.i64.wrap (0-a),rfl,λh=>by have:=zbe h;rw[wrap64 oM];omega⟩,H.au⟩
 refine V2 ?_;refine Vv (ah.alL (c:=IntKind.i64.wrap (a*b)) rfl rfl rfl) (Dz (λS C o=>?_));refine V3 ?_;refine Gp S 3 rfl rfl (λ_=>(ah.alM (c:=(IntKind.i64.wrap (a*b)).tdiv b) rfl rfl oM (wrap64 (XH II oM oM)))) ?_;refine V4 ?_;have j:=Ri (a:=a) (b:=b) oM ⟨g,i⟩;have f:bM (a*b)=decide ((IntKind.i64.wrap (a*b)).tdiv b=a):=by rw[zdx,decide_eq_true_eq];exact j.symm
 refine⟨⟨IntKind.i64.wrap (a*b),by rw[f];rfl,λh=>wrap64 (zbe h)⟩,o.au⟩
theorem EM (k:Int) (a b:aF):Rk prog 323 [I k,agg (aj a),agg (aj b)] w (agg (aj (JX k a b))):=by
 have H:=Sep.aI w;obtain⟨r,ay⟩: ∃r,r=JX k a b:=⟨_,rfl⟩;rw[<-ay];unfold JX at ay;refine AB func323 ?_;refine Sr (bK H (h:=λd w2 W k1=>?_));refine bK W (h:=λf w4 H4 k3=>?_);refine Az (λg w6 q k5=>?_);refine Qn (dU (λz:Bool=>[(0,I k),(4,.pointer (some ⟨d,0,none⟩)),(5,.pointer (some ⟨f,0,none⟩)),(6,.pointer (some ⟨g,0,none⟩)),(7,.bool z)]) (λz w'=>z=decide (a.null=true\/b.null=true)/\Sep w noB [blk g (aj cell0) 48,blk f (aj b) 48,blk d (aj a) 48] w') ?_ ?_)
 .refine V3 ?_
  refine eO (t:=12) rfl (λQ=>?_) (λQ=>?_)
  .refine V2 ?_
   exact aA _ tR ⟨by simp[*],q⟩
  refine V4 ?_;exact aA _ tR ⟨by simp[*],q⟩
 rintro p V wa ⟨o,y⟩;refine Lp ?_;refine dU (λz:Bool=>[(0,I k),(4,.pointer (some ⟨d,0,none⟩)),(5,.pointer (some ⟨f,0,none⟩)),(6,.pointer (some ⟨g,0,none⟩)),(7,.bool p),(8,.bool z)]) (λz w'=>z=decide (a.n=1\/b.n=1)/\Sep w noB [blk g (aj cell0) 48,blk f (aj b) 48,blk d (aj a) 48] w') ?_ ?_
 .refine Sz (λSb=>?_) (λSb=>?_)
  .refine V2 ?_
   exact aA _ tR ⟨by simp[*],y⟩
  refine V5 ?_;exact aA _ tR ⟨by simp[*],y⟩
 rintro T V wb ⟨m,i⟩;refine Lp ?_;refine dU (λz:Bool=>[(0,I k),(4,.pointer (some ⟨d,0,none⟩)),(5,.pointer (some ⟨f,0,none⟩)),(6,.pointer (some ⟨g,0,none⟩)),(7,.bool p),(8,.bool T),(9,.bool z)]) (λz w'=>z=decide ((a.null=false/\a.n=0)\/(b.null=false/\b.n=0))/\Sep w noB [blk g (aj cell0) 48,blk f (aj b) 48,blk d (aj a) 48] w') ?_ ?_
 .refine V4 ?_
  refine eO (t:=27) rfl (λSc=>?_) (λSc=>?_)
  .refine Sz (λSd=>?_) (λSd=>?_)
   .refine V2 ?_
    exact aA _ tR ⟨by first | (simp[*];done) | (simp_all;done),i⟩
   refine V4 ?_;refine eO (t:=36) rfl (λSe=>?_) (λSe=>?_)
   .refine V6 ?_
    exact aA _ tR ⟨by first | (simp[*];done) | (simp_all;done),i⟩
   refine V3 ?_;exact aA _ tR ⟨by first | (simp[*];done) | (simp_all;done),i⟩
  refine V6 ?_;refine eO (t:=36) rfl (λSf=>?_) (λSf=>?_)
  .refine V6 ?_
   exact aA _ tR ⟨by first | (simp[*];done) | (simp_all;done),i⟩
  refine V3 ?_;exact aA _ tR ⟨by first | (simp[*];done) | (simp_all;done),i⟩
 rintro n0 V wc ⟨j,Hc⟩;have c:r=if k=13/\n0=true then iw false else if k=14/\T=true then iw true else if p=true then cK else if k=15 then iw (decide (a.n=0))else iw (decide (k=13)):=by rw[ay,j,m,o];simp only[decide_eq_true_eq]
 clear ay j m o;refine Lp ?_;refine Sz (λSg=>?_) (λSg=>?_)
 .refine O3 ?_
  refine Qn (Cd rfl (λX=>?_) (λX=>?_))
  .refine Kz (ji _) (λwd Hd ka=>?_)
   refine Tz (λwe C=>?_);refine V0 ?_;refine⟨_,gT C,?_,C.au⟩;show agg (aj _)=agg (aj r)
   (rw[c];simp[*])
  refine Sz (λSh=>?_) (λSh=>?_)
  .refine O3 ?_
   refine Qn (Cd rfl (λY=>?_) (λY=>?_))
   .refine Kz (ji _) (λwf Hf kb=>?_)
    refine Tz (λwg D=>?_);refine V0 ?_;refine⟨_,gT D,?_,D.au⟩;show agg (aj _)=agg (aj r)
    (exfalso;omega)
   refine O2 ?_;refine Qn (Cd rfl (λZ=>?_) (λZ=>?_))
   .refine Sr (Vb (aj cK) ?_)
    refine Tz (λwh E=>?_);refine V0 ?_;refine⟨_,gT E,?_,E.au⟩;show agg (aj _)=agg (aj r)
    (exfalso;omega)
   refine Cz (λS=>?_) (λS=>?_)
   .refine Kz (ji _) (λwi Hi kc=>?_)
    refine Tz (λwj F=>?_);refine V0 ?_;refine⟨_,gT F,?_,F.au⟩;show agg (aj _)=agg (aj r)
    (exfalso;omega)
   refine Kz (ji _) (λwk Hk kd=>?_);refine Tz (λwl G=>?_);refine V0 ?_;refine⟨_,gT G,?_,G.au⟩;show agg (aj _)=agg (aj r)
   (exfalso;omega)
  refine O4 ?_;refine Qn (Cd rfl (λe=>?_) (λe=>?_))
  .refine Sr (Vb (aj cK) ?_)
   refine Tz (λwm J=>?_);refine V0 ?_;refine⟨_,gT J,?_,J.au⟩;show agg (aj _)=agg (aj r)
   (rw[c];simp[*])
  refine Cz (λl=>?_) (λl=>?_)
  .refine Kz (ji _) (λwn Hn ke=>?_)
   refine Tz (λwo K=>?_);refine V0 ?_;refine⟨_,gT K,?_,K.au⟩;show agg (aj _)=agg (aj r)
   (exfalso;omega)
  refine Kz (ji _) (λwp Hp kf=>?_);refine Tz (λwq L=>?_);refine V0 ?_;refine⟨_,gT L,?_,L.au⟩;show agg (aj _)=agg (aj r)
  (rw[c];simp[*])
 refine Sz (λSi=>?_) (λSi=>?_)
 .refine O3 ?_
  refine Qn (Cd rfl (λv=>?_) (λv=>?_))
  .refine Kz (ji _) (λwr Hr kg=>?_)
   refine Tz (λws M=>?_);refine V0 ?_;refine⟨_,gT M,?_,M.au⟩;show agg (aj _)=agg (aj r)
   (rw[c];simp[*])
  refine O2 ?_;refine Qn (Cd rfl (λx=>?_) (λx=>?_))
  .refine Sr (Vb (aj cK) ?_)
   refine Tz (λwt N=>?_);refine V0 ?_;refine⟨_,gT N,?_,N.au⟩;show agg (aj _)=agg (aj r)
   (rw[c];simp[*])
  refine Cz (λA=>?_) (λA=>?_)
  .refine Kz (ji _) (λwu Hu kh=>?_)
   refine Tz (λwv O=>?_);refine V0 ?_;refine⟨_,gT O,?_,O.au⟩;show agg (aj _)=agg (aj r)
   (exfalso;omega)
  refine Kz (ji _) (λww Hw ki=>?_);refine Tz (λwx Hx=>?_);refine V0 ?_;refine⟨_,gT Hx,?_,Hx.au⟩;show agg (aj _)=agg (aj r)
  (rw[c];simp[*])
 refine O4 ?_;refine Qn (Cd rfl (λIn=>?_) (λIn=>?_))
 .refine Sr (Vb (aj cK) ?_)
  refine Tz (λwy R=>?_);refine V0 ?_;refine⟨_,gT R,?_,R.au⟩;show agg (aj _)=agg (aj r)
  (rw[c];simp[*])
 refine Cz (λP=>?_) (λP=>?_)
 .refine Kz (ji _) (λwz Hz kj=>?_)
  refine Tz (λwD s=>?_);refine V0 ?_;refine⟨_,gT s,?_,s.au⟩;show agg (aj _)=agg (aj r)
  (rw[c];simp[*])
 refine Kz (ji _) (λwE HB kk=>?_);refine Tz (λwF u=>?_);refine V0 ?_;refine⟨_,gT u,?_,u.au⟩;show agg (aj _)=agg (aj r)
 (rw[c];simp[*])
end
def DC (n:Int):Option aF:=if bM n=true then some ⟨false,n,[]⟩else none
def lK (k:Int) (a b:aF):Option aF:=
 if k=13\/k=14\/k=15 then some (JX k a b)
 else if k=16 then some (iw a.null)
 else if k=17 then some (if a.null=true then b else a)
 else if a.null=true\/b.null=true then some cK
 else if k=7 then DC (a.n+b.n)
 else if k=8 then DC (a.n-b.n)
 else if k=9 then DC (a.n*b.n)
 else if k=10 then DC (-a.n)
 else if k=11 then some (iw (decide (a=b)))
 else if k=12 then some (iw (decide (nV a b<0)))
 else some ⟨false,a.s.length,[]⟩
def adV {ok:Bool} (h:ok=res.isSome) (a: ∀y,res=some y->c=y): ∃t,Value.tuple #[agg (aj c),.bool ok]=.tuple #[agg (aj t),.bool res.isSome]/\∀x,res=some x->t=x:=
 ⟨c,by rw[h],a⟩
def fO (h:res=some c): ∃t,Value.tuple #[agg (aj c),.bool true]=.tuple #[agg (aj t),.bool res.isSome]/\∀x,res=some x->t=x:=
 adV IY (λy a=>by rw[h]at a;injection a)
def uP {n c:Int} {ok:Bool} (h:res=DC n) (b:ok=bM n) (d:bM n=true->c=n): ∃t,Value.tuple #[agg (aj ⟨false,c,[]⟩),.bool ok]=.tuple #[agg (aj t),.bool res.isSome]/\∀x,res=some x->t=x:=by
 subst h b;unfold DC;cases hf:bM n with
 | false=>exact⟨_,rfl,λy a=>by cases a⟩
 | true=>exact⟨_,rfl,λy a=>by rw[d hf];injection a⟩
attribute [local irreducible] nV
section
variable {w:Wd}
theorem Oh (k:Int) (a b:aF) (ha:cB a.n) (hb:cB b.n) (hs:a.s.length<=9223372036854775807):aX Tryz.prog 257 [I k,agg (aj a),agg (aj b)] w λv w'=>(∃c,v=.tuple #[agg (aj c),.bool (lK k a b).isSome]/\∀y,lK k a b=some y->c=y)/\aS noB w w':=by
 have H:=Sep.aI w;have g:=ha;obtain⟨i,j⟩:=ha;obtain⟨m,o⟩:=hb;obtain⟨r,ay⟩: ∃r,r=lK k a b:=⟨_,rfl⟩;rw[<-ay];unfold lK at ay;refine AB Tryz.func257 ?_;refine Sr (bK H (h:=λb1 w2 H2 k1=>?_));refine bK H2 (h:=λb3 w4 H4 k3=>?_);refine Az (λb5 w6 J k5=>?_);refine Cz (λP=>?_) (λP=>?_)
 .refine Sk (fC (zay Value.bool (zau P)) ?_)
  refine Kz (EM k a b) (λwa Ha ka=>?_);refine Tz (λwb K=>?_);refine V1 ?_;exact⟨_,dD K,fO IU,K.au⟩
 refine Cz (λQ=>?_) (λQ=>?_)
 .refine Sk (fC (zay Value.bool (zau Q)) ?_)
  refine Kz (EM k a b) (λwc Hc kb=>?_);refine Tz (λwd L=>?_);refine V1 ?_;exact⟨_,dD L,fO IU,L.au⟩
 refine Cz (λIg=>?_) (λIg=>?_)
 .refine Kz (EM k a b) (λwe He kc=>?_)
  refine Tz (λwf M=>?_);refine V1 ?_;exact⟨_,dD M,fO IU,M.au⟩
 refine Cz (λIh=>?_) (λIh=>?_)
 .refine Kz (ji _) (λwg Hg kd=>?_)
  refine Tz (λwh N=>?_);refine V1 ?_;exact⟨_,dD N,fO (by rw[ay,zab oM,zac oM]),N.au⟩
 refine Cz (λIi=>?_) (λIi=>?_)
 .refine O2 ?_
  refine Qn (Cd rfl (λIj=>?_) (λIj=>?_))
  .refine Tz (λwi O=>?_)
   refine V1 ?_;exact⟨_,dD O,fO (by rw[ay,zab oM,zab oM,zac oM,zac (by assumption)]),O.au⟩
  refine Tz (λwj R=>?_);refine V1 ?_;exact⟨_,dD R,fO (by rw[ay,zab oM,zab oM,zac oM,zab (by simp[*])]),R.au⟩
 refine V3 ?_;refine eO (t:=32) rfl (λSa=>?_) (λSa=>?_)
 .refine V1 ?_
  refine Vb (aj cK) ?_;refine Tz (λwk T=>?_);refine V1 ?_;exact⟨_,dD T,fO yc,T.au⟩
 refine O3 ?_;refine Qn (Cd rfl (λIk=>?_) (λIk=>?_))
 .refine Sr (Vb (aj cK) ?_)
  refine Tz (λwl V=>?_);refine V1 ?_;exact⟨_,dD V,fO yc,V.au⟩
 have F: ¬(a.null=true\/b.null=true):=by simp[*]
 rw[zab oM,zab oM,zab oM,zab F]at ay;refine Cz (λp=>?_) (λp=>?_)
 .rw[zac p]at ay
  refine V4 ?_;refine fF (XF a.n b.n ⟨i,j⟩ ⟨m,o⟩) (h:=?_);refine V6 ?_;refine Vb (aj ⟨false,if bM (a.n+b.n)=true then a.n+b.n else 0,[]⟩) ?_;refine Mv ?_;refine Tz (λwm W=>?_);refine V1 ?_;exact⟨_,dD W,uP (n:=a.n+b.n) ay rfl (λh=>zac h),W.au⟩
 rw[zab p]at ay;refine Cz (λq=>?_) (λq=>?_)
 .rw[zac q]at ay
  refine Cz (λIn=>?_) (λIn=>?_)
  .refine Dz (λS wn Hn=>?_)
   refine V2 ?_;refine Gp S 2 rfl rfl (λ_=>(ah.Z7 (c:=IntKind.i64.wrap (a.n+1)) rfl rfl rfl)) (Gp S 3 rfl rfl (λ_=>(ah.Z7 (c:=IntKind.i64.wrap (IntKind.i64.wrap (a.n+1)+9223372036854775807)) rfl rfl rfl)) ?_);refine Gb S 4 (aj ⟨false,IntKind.i64.wrap (IntKind.i64.wrap (a.n+1)+9223372036854775807),[]⟩) ?_;refine V3 ?_;refine cu S 8 [(7,true),(6,false),(5,true)] Hn (h:=λwo X=>⟨sL,?_⟩);refine V1 ?_;exact⟨_,dD X,uP (n:=a.n-b.n) ay (by unfold bM;rw[zbg];omega) (λh=>by have:=zbe h;rw[IntKind.wrap_i64,IntKind.wrap_i64];omega),X.au⟩
  refine V4 ?_;refine Vv (ah.aiC (c:= -b.n) rfl (by rw[wrap64 oM];omega)) ?_;refine fF (XF a.n (-b.n) ⟨i,j⟩ ⟨oM,oM⟩) (h:=?_);refine V6 ?_;refine Vb (aj ⟨false,if bM (a.n+ -b.n)=true then a.n+ -b.n else 0,[]⟩) ?_;refine Mv ?_;refine Tz (λwp Y=>?_);refine V1 ?_;exact⟨_,dD Y,uP (n:=a.n-b.n) ay (by rw[Int.sub_eq_add_neg]) (λh=>by rw[Int.sub_eq_add_neg]at h ⊢;exact zac h),Y.au⟩
 rw[zab q]at ay;refine Cz (λu=>?_) (λu=>?_)
 .rw[zac u]at ay
  refine V4 ?_;refine aO (Gi a.n b.n g ⟨m,o⟩) rfl rfl (λv' wq G=>?_);obtain⟨⟨E,rfl,d⟩,f⟩:=G;have Hq:=J.aK f;refine V6 ?_;refine Vb (aj ⟨false,E,[]⟩) ?_;refine Mv ?_;refine Tz (λwr Z=>?_);refine V1 ?_;exact⟨_,dD Z,uP (n:=a.n*b.n) ay rfl d,Z.au⟩
 rw[zab u]at ay;refine Cz (λz=>?_) (λz=>?_)
 .rw[zac z]at ay
  refine V2 ?_;refine aO (Gi a.n (-1) g ⟨dC,dC⟩) rfl rfl (λv' ws G=>?_);obtain⟨⟨E,rfl,d⟩,f⟩:=G;have Hs:=J.aK f;refine V6 ?_;refine Vb (aj ⟨false,E,[]⟩) ?_;refine Mv ?_;refine Tz (λwt e=>?_);refine V1 ?_;exact⟨_,dD e,uP (n:= -a.n) ay (by rw[show -a.n=a.n* -1 from oM]) (λh=>by rw[show -a.n=a.n* -1 from oM]at h ⊢;exact d h),e.au⟩
 rw[zab z]at ay;refine Cz (λC=>?_) (λC=>?_)
 .rw[zac C]at ay
  refine V2 ?_;refine Vv (ah.aib (enc:=aj) _ _ rfl rfl) (Kz (ji _) (λwu Hu ke=>?_));refine Tz (λwv l=>?_);refine V1 ?_;exact⟨_,dD l,fO ay,l.au⟩
 rw[zab C]at ay;refine Cz (λD=>?_) (λD=>?_)
 .rw[zac D]at ay
  refine Kz (KJ _ _) (λww Hw kf=>?_);refine Vl ?_;refine Kz (ji _) (λwx Hx kg=>?_);refine Tz (λwy x=>?_);refine V1 ?_;exact⟨_,dD x,fO ay,x.au⟩
 rw[zab D]at ay;refine V5 ?_;refine Vb (aj ⟨false,(a.s.length:Int),[]⟩) ?_;refine Mv ?_;refine Tz (λwz A=>?_);refine V1 ?_;exact⟨_,dD A,fO ay,A.au⟩
end
end
section
def okC (t:bZ) (c:aF):Prop:=fB t c=0
def mM:okC t c↔(mX t=true/\((c.null=true/\t.null=true/\c=cK)\/(c.null=false/\isC t.kind c=true))):=by
 unfold okC fB;cases hm:mX t
 .simp
 cases hn:c.null
 .cases hi:isC t.kind c<;>simp
 by_cases h:t.null=true/\c=cK
 .simp[h]
 simp[h]
def XI (h:mX t=true):1<=t.kind/\t.kind<=5:=zbe h
def AV (h:1<=t.kind/\t.kind<=5):mX t=true:=zau h
def zD (h:1<=k/\k<=5):okC ⟨k,true⟩ cK:=mM.2 ⟨AV h,.inl ⟨rfl,rfl,rfl⟩⟩
def zF (n:Bool) (b:Bool):okC ⟨1,n⟩ (iw b):=mM.2 ⟨AV (show(1:Int)<=1/\(1:Int)<=5 from dC),.inr ⟨by cases b<;>rfl,by cases b<;>rfl⟩⟩
def Un (n:Bool) (i:Int):okC ⟨3,n⟩ ⟨false,i,[]⟩:=mM.2 ⟨AV (show(1:Int)<=3/\(3:Int)<=5 from dC),.inr ⟨rfl,by simp[isC]⟩⟩
def Oi (h:okC t c) (g:t.kind=1):(c=cK/\t.null=true)\/c=iw false\/c=iw true:=by
 rcases (mM.1 h).2 with⟨_,a,b⟩ | ⟨d,a⟩
 .exact .inl ⟨b,a⟩
 right
 rw[g]at a;unfold isC at a;rw[zac rfl]at a;obtain⟨b,i,j⟩:=zbe a
 by_cases f:c.n=0
 .left;exact aF.ext' d f b
 right;exact aF.ext' d (show c.n=1 from oM) b
def Oj (h:okC t c):c.s.length<=1024:=by
 rcases (mM.1 h).2 with⟨_,_,b⟩ | ⟨d,a⟩
 .rw[b];simp[cK]
 unfold isC at a
 repeat' split at a
 all_goals first
  | (have:=zbe a;omega)
  | (have b:=zbe a;first | (rw[b.1];simp) | (rw[b];simp))
def Ci (h:okC t c) (b:c.null=true):t.null=true/\c=cK:=by
 rcases (mM.1 h).2 with⟨_,a,f⟩ | ⟨d,a⟩
 .exact⟨a,f⟩
 rw[d]at b;cases b
def aiD {m:bZ} (h:okC t c) (f:m.kind=t.kind) (j:t.null=true->m.null=true):okC m c:=by
 obtain⟨g,i⟩:=mM.1 h;refine mM.2 ⟨AV (by rw[f];exact XI g),?_⟩
 rcases i with⟨a,b,d⟩ | ⟨a,b⟩
 .exact .inl ⟨a,j b,d⟩
 exact .inr ⟨a,by rw[f];exact b⟩
def XJ {a b:aF} (h:a.null=b.null):nV a b=0↔a=b:=by
 constructor
 .intro e
  unfold nV at e;rw[zac h]at e
  split at e
  .cases e
  split at e
  .cases e
  exact aF.ext' h oM (N7 e)
 rintro rfl;unfold nV;rw[zac rfl,zab (Int.lt_irrefl _),zab (Int.lt_irrefl _),N8]
def agZ {tb:bZ} (d:okC ta a) (f:okC tb b) (h:ta.kind=1) (c:tb.kind=1) (g:k=13\/k=14\/k=15):JX k a b=vY k a b:=by
 rcases Oi d h with⟨rfl,_⟩ | rfl | rfl<;>rcases Oi f c with⟨rfl,_⟩ | rfl | rfl<;>rcases g with rfl | rfl | rfl<;>decide
def ag0 {tb:bZ} (c:okC ta a) (d:okC tb b) (f:ta.kind=1) (g:tb.kind=1):okC ⟨1,ta.null||tb.null⟩ (vY k a b):=by
 unfold vY
 repeat' split
 .exact zF _ _
 .exact zF _ _
 .rename_i h
  have :(ta.null||tb.null)=true:=by
   rcases h with h | h
   .rw[(Ci c IY).1];rfl
   rw[(Ci d IY).1];simp
  rw[this];exact zD ⟨dC,dC⟩
 .exact zF _ _
 exact zF _ _
def Uo {tb:bZ} (c:okC ta a) (d:okC tb b) (h:a.null=true\/b.null=true):(ta.null||tb.null)=true:=by
 rcases h with h | h
 .rw[(Ci c h).1];rfl
 rw[(Ci d h).1];simp
def akd {tb:bZ} {n:Int} (f:okC ta a) (g:okC tb b): ∀c,(if a.null=true\/b.null=true then some cK else DC n)=some c->okC ⟨3,ta.null||tb.null⟩ c/\cB c.n:=by
 intro c d
 split at d
 .rename_i h
  injection d with d
  subst d;rw[Uo f g h];exact⟨zD dC,dC,dC⟩
 unfold DC at d
 split at d
 .rename_i i
  injection d with d
  subst d;have h: -9223372036854775808<=n/\n<=9223372036854775807:=zbe i;exact⟨Un _ _,h⟩
 cases d
def JY (b:Bool):cB (iw b).n:=by cases b<;>exact⟨dC,dC⟩
def abj {tb:bZ} {f:Bool} (g:okC ta a) (i:okC tb b): ∀c,(if a.null=true\/b.null=true then some cK else some (iw f))=some c->okC ⟨1,ta.null||tb.null⟩ c/\cB c.n:=by
 intro c d
 split at d
 .rename_i h
  injection d with d
  subst d;rw[Uo g i h];exact⟨zD dC,dC,dC⟩
 injection d with d
 subst d;exact⟨zF _ _,JY _⟩
def Z8:cB (vY k a b).n:=by
 unfold vY
 repeat' split
 all_goals first | exact JY _ | exact⟨dC,dC⟩
theorem Z9 {tb:bZ} (E:7<=k/\k<=18) (j:vX k ta tb=some t) (p:okC ta a) (u:okC tb b) (H:cB a.n) (C:cB b.n):
    lK k a b=jI k a b/\∀c,jI k a b=some c->okC t c/\cB c.n:=by
  have f:k=7\/k=8\/k=9\/k=10\/k=11\/k=12\/k=13\/k=14\/k=15\/k=16\/k=17\/k=18:=oM
  have g: ∀n:Int,lK k a b=(if a.null=true\/b.null=true then some cK else DC n)->jI k a b=(if a.null=true\/b.null=true then some cK else DC n)->(if ta.kind=3/\tb.kind=3 then some (⟨3,ta.null||tb.null⟩:bZ)else none)=some t->lK k a b=jI k a b/\∀c,jI k a b=some c->okC t c/\cB c.n:=by
    intro n q y d;rw[q,y]
    split at d
    . injection d with d
      subst d;exact⟨rfl,akd p u⟩
    cases d
  have o:(k=13\/k=14\/k=15)->(if ta.kind=1/\tb.kind=1 then some (⟨1,ta.null||tb.null⟩:bZ)else none)=some t->lK k a b=jI k a b/\∀c,jI k a b=some c->okC t c/\cB c.n:=by
    intro q d
    split at d
    . rename_i i
      injection d with d
      subst d;have m:lK k a b=some (JX k a b):=zac q;have e:jI k a b=some (vY k a b):=zac q;rw[m,e,agZ p u i.1 i.2 q];refine⟨rfl,λc f=>?_⟩;injection f with f
      subst f;exact⟨ag0 p u i.1 i.2,Z8⟩
    cases d
  rcases f with rfl | rfl | rfl | rfl | rfl | rfl | rfl | rfl | rfl | rfl | rfl | rfl
  . exact g (a.n+b.n) (by unfold lK;simp) I7 j
  . exact g (a.n-b.n) (by unfold lK;simp) I7 j
  . exact g (a.n*b.n) (by unfold lK;simp) I7 j
  . exact g (-a.n) (by unfold lK;simp) I7 j
  . have e:jI 11 a b=(if a.null=true\/b.null=true then some cK else some (iw (decide (nV a b=0)))):=by unfold jI;simp
    have m:lK 11 a b=(if a.null=true\/b.null=true then some cK else some (iw (decide (a=b)))):=by unfold lK;simp
    have d:(if ta.kind=tb.kind then some (⟨1,ta.null||tb.null⟩:bZ)else none)=some t:=j
    split at d
    . injection d with d
      subst d;refine⟨?_,by rw[e];exact abj p u⟩;rw[m,e]
      split
      . rfl
      rename_i z;have D:=XJ (a:=a) (b:=b) (by cases q:a.null<;>cases y:b.null<;>simp[q,y]at z ⊢);simp only[D]
    cases d
  . have e:jI 12 a b=(if a.null=true\/b.null=true then some cK else some (iw (decide (nV a b<0)))):=by unfold jI;simp
    have m:lK 12 a b=(if a.null=true\/b.null=true then some cK else some (iw (decide (nV a b<0)))):=by unfold lK;simp
    have d:(if ta.kind=tb.kind then some (⟨1,ta.null||tb.null⟩:bZ)else none)=some t:=j
    split at d
    . injection d with d
      subst d;exact⟨by rw[m,e],by rw[e];exact abj p u⟩
    cases d
  . exact o dC j
  . exact o dC j
  . exact o dC j
  . have m:lK 16 a b=some (iw a.null):=by unfold lK;simp
    have e:jI 16 a b=some (iw a.null):=by unfold jI;simp
    have d:some (⟨1,false⟩:bZ)=some t:=j;injection d with d
    subst d;rw[m,e];refine⟨rfl,λc f=>?_⟩;injection f with f
    subst f;exact⟨zF _ _,JY _⟩
  . have m:lK 17 a b=some (if a.null=true then b else a):=by unfold lK;simp
    have e:jI 17 a b=some (if a.null=true then b else a):=by unfold jI;simp
    have d:(if ta.kind=tb.kind then some (⟨ta.kind,ta.null&&tb.null⟩:bZ)else none)=some t:=j
    split at d
    . rename_i i
      injection d with d
      subst d;rw[m,e];refine⟨rfl,λc f=>?_⟩;injection f with f
      subst f
      split
      . rename_i z
        exact⟨aiD u i (λh=>by show(ta.null&&tb.null)=true;rw[(Ci p z).1,h];rfl),C⟩
      rename_i z;refine⟨mM.2 ⟨AV (XI (mM.1 p).1),.inr ?_⟩,H⟩
      rcases (mM.1 p).2 with⟨q,_⟩ | y
      . exact zas q z
      exact y
    cases d
  have m:lK 18 a b=(if a.null=true\/b.null=true then some cK else some ⟨false,a.s.length,[]⟩):=by unfold lK;simp
  have e:jI 18 a b=(if a.null=true\/b.null=true then some cK else some ⟨false,a.s.length,[]⟩):=by unfold jI;simp
  have d:(if ta.kind=4\/ta.kind=5 then some (⟨3,ta.null||tb.null⟩:bZ)else none)=some t:=j
  split at d
  . injection d with d
    subst d;rw[m,e];refine⟨rfl,λc f=>?_⟩
    split at f
    . rename_i h
      injection f with f
      subst f;rw[Uo p u h];exact⟨zD dC,dC,dC⟩
    injection f with f
    subst f;have:=Oj p;exact⟨Un _ _,by show(-9223372036854775808:Int)<=a.s.length;omega,by show(a.s.length:Int)<=9223372036854775807;omega⟩
  cases d
def Cj {x:Int}: ∀{l:List Int},x∈mK k l↔x=k\/x∈l
 | []=>by simp[mK]
 | y::l=>by
  rw[mK]
  split
  .rw[zax,Cj,zax];constructor
   .rintro(h | h | h)
    .exact .inr (.inl h)
    .exact .inl h
    exact .inr (.inr h)
   rintro(h | h | h)
   .exact .inr (.inl h)
   .exact .inl h
   exact .inr (.inr h)
  split
  .rename_i b a
   subst a;rw[zax];constructor
   .intro h;exact .inr h
   rintro(h | h)
   .exact .inl h
   exact h
  rw[zax]
def Ec: ∀{l:List Int},l.Pairwise (· < ·)->(mK k l).Pairwise (· < ·)
 | [],_=>by simp[mK]
 | y::l,h=>by
  rw[mK];obtain⟨b,c⟩:=zcs.1 h
  split
  .rename_i d
   refine zcs.2 ⟨λz a=>?_,Ec c⟩
   rcases Cj.1 a with rfl | a
   .exact d
   exact b z a
  split
  .exact h
  refine zcs.2 ⟨λz a=>?_,h⟩
  rcases zax.1 a with rfl | a
  .omega
  have:=b z a;omega
def Ol: ∀{a:List Int},a.Pairwise (· < ·)->(l.foldl (λa x=>mK x.n a) a).Pairwise (· < ·)/\∀k,k∈l.foldl (λa x=>mK x.n a) a↔k∈a\/∃x∈l,x.n=k:=by
 induction l with
 | nil=>intro a h;exact⟨h,λk=>sM⟩
 | cons x l i=>
  intro a h;obtain⟨c,d⟩:=i (a:=mK x.n a) (Ec h);refine⟨c,λk=>?_⟩;rw[List.foldl_cons,d k,Cj];constructor
  .rintro((h | h) | ⟨y,b,e⟩)
   .exact .inr ⟨x,zak,h.symm⟩
   .exact .inl h
   exact .inr ⟨y,zap _ b,e⟩
  rintro(h | ⟨y,b,e⟩)
  .exact .inl (.inr h)
  rcases zax.1 b with rfl | b
  .exact .inl (.inl e.symm)
  exact .inr ⟨y,b,e⟩
def Ck (l:List bH):(tC l).Pairwise (· < ·):=(Ol List.Pairwise.nil).1
def uQ:k∈tC l↔∃x∈l,x.kind=1/\x.n=k:=by
 unfold tC;rw[(Ol List.Pairwise.nil).2 k];simp only[zal,false_or,zca,decide_eq_true_eq,and_assoc]
def EN: ∀{a b:List Int},a.Pairwise (· < ·)->b.Pairwise (· < ·)->(∀k,k∈a↔k∈b)->a=b
 | [],[],_,_,_=>rfl
 | [],y::b,_,_,h=>zas ((h y).2 zak) sM
 | x::a,[],_,_,h=>zas ((h x).1 zak) sM
 | x::a,y::b,h1,h2,h=>by
  obtain⟨p,j⟩:=zcs.1 h1;obtain⟨q,m⟩:=zcs.1 h2
  have f:x=y:=by
   rcases zax.1 ((h x).1 zak)with e | g
   .exact e
   rcases zax.1 ((h y).2 zak)with e | i
   .exact e.symm
   have:=p y i;have:=q x g;omega
  subst f
  congr 1
  refine EN j m λk=>⟨λd=>?_,λd=>?_⟩
  .rcases zax.1 ((h k).1 (zap _ d))with rfl | c
   .exact zas (p k d) oM
   exact c
  rcases zax.1 ((h k).2 (zap _ d))with rfl | c
  .exact zas (q k d) oM
  exact c
section
variable {w:Wd}
end
def adW (s:L8):(vW s).length<=6*s.length+2:=by
 have h:=BU (f:=jT) (k:=6) (λc=>by unfold jT;(repeat' split)<;>simp) s;unfold vW;simp only[zat,zad,zci];omega
def ag1 (h:7<=k) (a:k<=18):mo[(k-7).toNat]? =some (mo.getD (k-7).toNat []):=by
 rw[zao];have :(k-7).toNat<mo.length:=by show _<12;omega
 rw[zaa this];rfl
section
variable {w:Wd}
end
def uI {α:Type} {l:List α} {p:α->Bool} {j:Nat} {x:α} (h: ∀(i:Nat) y,i<j->l[i]? =some y->p y=false) (c:l[j]? =some x) (d:p x=true):l.findIdx? p=some j:=by
 rw[zcr];obtain⟨a,b⟩:=zba.1 c;refine⟨a,by rw[b];exact d,λi hi=>?_⟩;rw[h i _ hi (zaa oM)];simp
def qZ {α:Type} {l:List α} {p:α->Bool} (h: ∀(i:Nat) y,l[i]? =some y->p y=false):l.findIdx? p=none:=by
 rw[zdc];intro x a;obtain⟨i,hi⟩:=zdf a;exact h i x hi
def XK {x:bH} (h:eX x=true) (a:cB x.n):(iE x).length<=6146:=(NT h a.1 a.2).1
attribute [local irreducible] eX iE
section
variable {w:Wd}
end
end
section
attribute [local irreducible] Ui eX iE
section
variable {w:Wd}
end
end
section
def Uq (s:L8) (c:UInt8):s.count c<=s.length:=List.count_le_length
attribute [local irreducible] eX iE dK readAll
section
variable {w:Wd}
end
end
def mO (r:List aF):Prop:=∀c∈r,cB c.n
def aac (h:d9 cols r=0):cols.length=r.length/\∀(i:Nat) a c,cols[i]? =some a->r[i]? =some c->okC a.type c:=by
  have s:cols.length=r.length:=by
    refine Classical.byContradiction λp=>?_;unfold d9 at h;rw[zac p]at h;cases h
  refine⟨s,λi a c f g=>?_⟩
  have key: ∀j,qY cols r j=0->∀i,j<=i->qY cols r i=0:=by
    intro j q i hi
    induction i with
    | zero=>
     have :j=0:=oM;subst this;exact q
    | succ i u=>
      by_cases m:j=i+1
      . rw[<-m];exact q
      have b:=u oM
      rcases zdp i r.length with o | t
      . obtain⟨c,g⟩:=aN o
        obtain⟨a,f⟩:=aN (l:=cols) (i:=i) oM;rw[yg f g]at b
        split at b
        . rename_i d;exact zas b d
        exact b
      exact EL oM
  have b:=key 0 (by rw[<-Cg s];exact h) i (zai _);rw[yg f g]at b
  split at b
  . rename_i d;exact zas b d
  rename_i d;exact Classical.byContradiction λp=>d p
def xk (cols:List bF) (r:List aF) (x:bH):aF:=if x.kind=1 then r.getD ((jM cols x.n).getD 0) cell0 else if x.kind=6 then cK else⟨false,x.n,x.s⟩
def aad {x:bH} (L:d9 cols r=0) (J:mO r) (o:cB x.n) (b:eX x=true) (M:x.kind<7) (h:iW cols x=some t):okC t (xk cols r x)/\cB (xk cols r x).n:=by
 obtain⟨N,z⟩:=aac L
 have K:1<=x.kind:=by
  unfold eX at b
  repeat' split at b
  all_goals first | omega | (have:=zbe b;omega)
 unfold xk;unfold iW at h;unfold eX at b
 by_cases C:x.kind=1
 .rw[zac C]at h |-
  cases hfc:jM cols x.n with
  | none=>rw[hfc]at h;cases h
  | some i=>
   rw[hfc]at h;have y:=Gh hfc;obtain⟨a,G⟩:=aN y;obtain⟨c,q⟩:=aN (l:=r) (i:=i) oM;have u:cols.getD i ⟨0,[],iq,cell0⟩=a:=jP G;simp only[zdg,u]at h ⊢;rw[jP q];have g:=z i a c G q;have j:cB c.n:=J c (zag q)
   split at h
   .cases h
   injection h with h
   subst h
   split
   .rename_i m
    refine⟨?_,j⟩
    rcases (mM.1 g).2 with⟨H,f,p⟩ | ⟨H,f⟩
    .rw[f,p];exact zD dC
    rw[m]at f;unfold isC at f;rw[zab dC,zac rfl]at f;have p:=zbe f;exact mM.2 ⟨AV (show(1:Int)<=3/\(3:Int)<=5 from dC),.inr ⟨H,by simp[isC,p.1]⟩⟩
   exact⟨g,j⟩
 rw[zab C]at h b |-
 by_cases m:x.kind=2
 .rw[zac m]at h b
  rw[zab oM];injection h with h
  subst h;have d:x.s=[]:=zbe b;rw[d];exact⟨Un _ _,o⟩
 rw[zab m]at h b
 by_cases D:x.kind=3
 .rw[zac D]at h b
  rw[zab oM];injection h with h
  subst h;have d:=zbe b;exact⟨mM.2 ⟨AV (show(1:Int)<=1/\(1:Int)<=5 from dC),.inr ⟨rfl,by simp[isC];exact d⟩⟩,o⟩
 rw[zab D]at h b
 by_cases E:x.kind=4
 .rw[zac E]at h b
  rw[zab oM];injection h with h
  subst h;have d:=zbe b;exact⟨mM.2 ⟨AV (show(1:Int)<=4/\(4:Int)<=5 from dC),.inr ⟨rfl,by simp[isC];exact d⟩⟩,o⟩
 rw[zab E]at h b
 by_cases F:x.kind=5
 .rw[zac F]at h b
  rw[zab oM];injection h with h
  subst h;have d:=zbe b;exact⟨mM.2 ⟨AV (show(1:Int)<=5/\(5:Int)<=5 from dC),.inr ⟨rfl,by simp[isC];exact d⟩⟩,o⟩
 rw[zab F]at h b;rw[zac oM]at b;rw[zac oM];injection h with h
 subst h;have d:=zbe b;exact⟨zD oM,dC,dC⟩
def Typed (ts:List bZ) (st:List aF):Prop:=ts.length=st.length/\∀(i:Nat) t c,ts[i]? =some t->st[i]? =some c->okC t c/\cB c.n
def Typed.push {H:List bZ} {u:List aF} (h:Typed H u) {m:Nat} {t:bZ} {c:aF} (s:m<=u.length) (p:okC t c/\cB c.n):Typed (H.take m++[t]) (u.take m++[c]):=by
 obtain⟨g,o⟩:=h;have e:(H.take m).length=m:=by rw[zah];omega
 have f:(u.take m).length=m:=by rw[zah];omega
 refine⟨by simp[g],λi q d b a=>?_⟩
 rcases zdp i m with hi | hi
 .rw[zce oM,zcq,zac hi]at b a
  exact o i q d b a
 rw[zbx oM,e]at b;rw[zbx oM,f]at a;cases hd:i-m with
 | zero=>
  rw[hd]at b a;simp at b a;rw[<-b,<-a];exact p
 | succ j=>rw[hd]at b;simp at b
def Typed.nil:Typed [] []:=⟨rfl,λi t c h=>by simp at h⟩
def ake {x:bH} (h:eX x=true):1<=x.kind/\x.kind<=18:=by
 unfold eX at h
 repeat' split at h
 all_goals first | omega | (have:=zbe h;omega)
def ag2 (cols:List bF) (r:List aF) (st:List aF) (x:bH):Option aF:=
 if eG x.kind=0 then some (xk cols r x)else lK x.kind (st.getD (st.length-eG x.kind) cell0) (st.getD (st.length-1) cell0)
def Cm (k:Int):eD k=0↔k<7:=by
 unfold eD
 repeat' split
 all_goals omega
def Om {x:bH} {R T:List bZ} {st:List aF} (M:d9 cols r=0) (L:mO r) (N:cB x.n) (o:Typed R st) (j:stepT cols R x=some T):
    D7 cols r st x=(ag2 cols r st x).map (λc=>st.take (st.length-eG x.kind)++[c])/\∀c,ag2 cols r st x=some c->Typed T (st.take (st.length-eG x.kind)++[c])/\cB c.n:=by
  have q:=λh=>Ch (cols:=cols) (st:=R) (x:=x) h
  have y:eX x=true:=by
    cases h:eX x with
    | true=>rfl
    | false=>rw[q (.inl h)]at j;cases j
  have H:eG x.kind<=R.length:=by
    refine Classical.byContradiction λh=>?_;rw[q (.inr oM)]at j;cases j
  rw[Rf y H]at j;obtain⟨t,m,C⟩:=zbb.1 j;subst C;have d:=o.1;unfold resT at m;unfold D7 ag2;have g:=Dv y;rw[<-g];dsimp only
  by_cases f:eG x.kind=0
  . rw[zac f]at m
    rw[zac f,zac f];have F:=aad M L N y ((Cm _).1 (by rw[<-g];exact f)) m;refine⟨rfl,λc p=>?_⟩;injection p with p
    subst p;rw[d];exact⟨o.push oM F,F.2⟩
  rw[zab f]at m;rw[zab f,zab f]
  have z:7<=x.kind:=by
    refine Classical.byContradiction λh=>f ?_;rw[g];exact(Cm _).2 oM
  obtain⟨a,D⟩:=aN (l:=st) (i:=st.length-eG x.kind) oM;obtain⟨b,E⟩:=aN (l:=st) (i:=st.length-1) oM;obtain⟨O,s⟩:=aN (l:=R) (i:=R.length-eG x.kind) oM;obtain⟨tb,u⟩:=aN (l:=R) (i:=R.length-1) oM;rw[jP s,jP u]at m;rw[jP D,jP E];have G:=o.2 (st.length-eG x.kind) O a (by rw[<-d];exact s) D;have J:=o.2 (st.length-1) tb b (by rw[<-d];exact u) E;obtain⟨e,K⟩:=Z9 ⟨z,(ake y).2⟩ m G.1 J.1 G.2 J.2;rw[e];refine⟨rfl,λc p=>?_⟩;have:=K c p;rw[d];exact⟨o.push oM this,this.2⟩
end
end Go.Proofs.Mw
