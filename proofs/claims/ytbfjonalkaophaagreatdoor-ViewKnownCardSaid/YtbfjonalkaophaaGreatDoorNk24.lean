/-
 Rows that are made,boxes and maps within regions that draw. Nothing of a given program stands here.
-/
import Derived.Test.YtbfjonalkaophaaGreatDoorNk23
set_option linter.all false
set_option maxRecDepth 4000
namespace Go.Proofs.Mw
variable {b d:Nat} {x y:Od} {T:Td} {v:Value} {D:List Ent}
open Go.RowKit
section
variable {P:Program} {r:Option Nat} {n:Nat} {ops:AO} {Q:Post} {rest:LO} {σ:St} {w w0:Wd} {S:NP} {rs:List HP} {put:HP->List HP} {ty:Td} {pos:String} {after:Array Edge} {lv:List Bool} {pd:LNB} {guard:Option (Nat×Bool)}
def aaV (f:eY n ops=true) (i:Nat) (a:LNB) {t e:Td} [j:dR P t e] {size E:Nat} [u:Cells P e size E] {z:Value} [A:Zero P e z] {k:Nat} {cs:LV} (H:Sep w0 S rs w)
    (l:ops[i]? =some ⟨some d,.makeSlice t x y,ty,pos,after,guard⟩:=by exact rfl) (hcs:madeCells z.cells (k*size)=cs.toArray) (hk:k<=maxLen) (hb:E*k<=281474976710656)
    (o:Region.wanted ⟨some d,.makeSlice t x y,ty,pos,after,guard⟩ (dG ops σ)=true:=by kernel_rfl) (q:evF σ x=.int .i64 k:=by exact rfl) (s:evF σ y=.int .i64 k:=by exact rfl)
    (c:gy ops lv (pd.map (·.1)) i=true:=by kernel_rfl) (g:pd.filter (λp=> !((above ops i).contains p.1))=a:=by exact pD)
    (h: ∀b w',Sep w0 S (blk b cs e::rs) w'->jK P ops (upd σ d (.slice (some ⟨b,0,none⟩) k k)) w' a/\FG P r n ops Q (lv.set i true) a (upd σ d (.slice (some ⟨b,0,none⟩) k k)) w'):FG P r n ops Q lv pd σ w:=
  vJ (C:=λv w'=>∃b,v=.slice (some ⟨b,0,none⟩) k k/\Sep w0 S (blk b cs e::rs) w') f i a l o ⟨_,_,ah.aiQ q s hcs hb hk,_,rfl,H.alloc _⟩ c g (λv w' m=>by obtain⟨b,rfl,j⟩:=m;exact h b w' j)
def M0 (f:eY n ops=true) (i:Nat) (a:LNB) {t e:Td} [j:dR P t e] {size E:Nat} [u:Cells P e size E] {z:Value} [A:Zero P e z] {k:Nat} {cs:LV} (H:Sep w0 S rs w)
    (l:ops[i]? =some ⟨some d,.makeSlice t x y,ty,pos,after,guard⟩:=by exact rfl) (hcs:madeCells z.cells (k*size)=cs.toArray) (hk:k<=maxLen) (hb:E*k<=281474976710656)
    (o:Region.wanted ⟨some d,.makeSlice t x y,ty,pos,after,guard⟩ (dG ops σ)=true:=by kernel_rfl) (q:evF σ x=.int .i64 k:=by exact rfl) (s:evF σ y=.int .i64 k:=by exact rfl)
    (c:oK ops lv (pd.map (·.1)) i=true:=by kernel_rfl) (g:pd.filter (λp=> !((above ops i).contains p.1))=a:=by exact pD)
    (h: ∀b w',Sep w0 S (blk b cs e::rs) w'->jK P ops (upd σ d (.slice (some ⟨b,0,none⟩) k k)) w' a/\FG P r n ops Q (lv.set i true) a (upd σ d (.slice (some ⟨b,0,none⟩) k k)) w'):pV P r n ops Q lv pd σ w i:=
  F8 (C:=λv w'=>∃b,v=.slice (some ⟨b,0,none⟩) k k/\Sep w0 S (blk b cs e::rs) w') f i a l o ⟨_,_,ah.aiQ q s hcs hb hk,_,rfl,H.alloc _⟩ c g (λv w' m=>by obtain⟨b,rfl,j⟩:=m;exact h b w' j)
def ah.alc {a:Od->Value} {cs:LV} (k:a x=v) (h:v.cells=cs.toArray):ah P a (.box T x) ty w (.pointer (some ⟨w.heap.size,0,none⟩)) (w.alloc (.cells cs.toArray T)):=λ_ _ _ _=>by
 simp[execOp,Instr.box,k,newVar,newRow,h]
def M4 (c:eY n ops=true) (i:Nat) (k:LNB) {cs:LV} (H:Sep w0 S rs w)
    (m:evF σ x=v) (hcs:v.cells=cs.toArray) (f:ops[i]? =some ⟨some d,.box T x,ty,pos,after,guard⟩:=by exact rfl)
    (l:Region.wanted ⟨some d,.box T x,ty,pos,after,guard⟩ (dG ops σ)=true:=by kernel_rfl)
    (a:gy ops lv (pd.map (·.1)) i=true:=by kernel_rfl) (e:pd.filter (λp=> !((above ops i).contains p.1))=k:=by exact pD)
    (h: ∀b w',Sep w0 S (blk b cs T::rs) w'->jK P ops (upd σ d (.pointer (some ⟨b,0,none⟩))) w' k/\FG P r n ops Q (lv.set i true) k (upd σ d (.pointer (some ⟨b,0,none⟩))) w'):FG P r n ops Q lv pd σ w:=
  vJ (C:=λv w'=>∃b,v=.pointer (some ⟨b,0,none⟩)/\Sep w0 S (blk b cs T::rs) w') c i k f l ⟨_,_,ah.alc m hcs,_,rfl,H.alloc _⟩ a e (λv w' j=>by obtain⟨b,rfl,g⟩:=j;exact h b w' g)
def DW {z:Od} {k e:Td} [m:IsMap P T k e] [l:mD P k] {i:L8} {v:Value} (H:Sep w0 S rs w) (a:At rs (iD b D) put) (f:evF σ x=.map (some b):=by exact rfl) (g:evF σ y=str i:=by exact rfl) (j:evF σ z=v:=by exact rfl)
    (h: ∀w',Sep w0 S (put (iD b (Bc D i v))) w'->FL P r n ops Q rest σ w'):
    FL P r n ops Q (⟨none,.mapUpdate T x y z,ty,pos,after,none⟩::rest) σ w:=by
  obtain⟨w',c,d⟩:=A9 (P:=P) (ty:=ty) (T:=T) (k:=k) (e:=e) H a f g j;exact Ee c rfl (h w' d)
end
open Go.Lib
def rV {o:Type} {enc:o->LV} {s:Nat} [hk:jl enc s] (j:0<s) (a:o) (k:Nat):madeCells (enc a).toArray (k*s)=((List.replicate k a).flatMap enc).toArray:=by
 apply Array.ext
 .rw[size_madeCells]
  simp only[zfu];rw[jh hk.len,zda]
 intro i c l;rw[size_madeCells]at c;have g:i/s<k:=Nat.div_lt_of_lt_mul (by rw[Nat.mul_comm];exact c);have b:i%s<s:=Nat.mod_lt _ j;have f:(List.replicate k a)[i/s]? =some a:=by rw[List.getElem?_replicate];simp[g]
 have h:=flat_get hk.len f b;rw[Nat.div_add_mod']at h;have d:(enc a)[i%s]? =some ((enc a)[i%s]'(by rw[hk.len];exact b)):=zaa _;rw[d]at h;obtain⟨m,e⟩:=zba.1 h;simp only[madeCells,Array.getElem_map,Array.getElem_range,zfu,hk.len,List.getElem_toArray];rw[e,getElem!_pos _ _ (by simp only[zfu,hk.len];exact b)];rfl
section
variable {P:Program} {r:Option Nat} {n:Nat} {ops:AO} {Q:Post} {rest:LO} {σ:St} {w w' w0:Wd} {S:NP} {rs:List HP} {put:HP->List HP} {op:Op} {ty:Td} {pos:String} {after:Array Edge} {guard:Option (Nat×Bool)} {lv:List Bool} {pd:LNB}
def ahU (c:ah P (evF σ) op ty w v w') (h:FL P r n ops Q rest σ w'):
    FL P r n ops Q (⟨none,op,ty,pos,after,none⟩::rest) σ w:=λa k=>
  wpListIn_plain rfl λK b=>by
    refine⟨λ_ _=>trivial,?_⟩;rw[k.eval,Gy (c _ _ _ _)];exact b _ _ (h _ k)
def Jr {k e:Td} [j:IsMap P T k e] (H:Sep w0 S rs w) (a:At rs (iD b D) put) (i:evF σ x=.map (some b):=by exact rfl) (c:Nat.blt d n=true:=by exact rfl)
    (h: ∀q w',Sep w0 S (put (vV q b D D)) w'->FL P r n ops Q rest (upd σ d (.pointer (some ⟨q,0,none⟩))) w'):
    FL P r n ops Q (⟨some d,.range T x,ty,pos,after,none⟩::rest) σ w:=by
  obtain⟨q,w',f,g,_⟩:=Uh (P:=P) (ty:=ty) (T:=T) (k:=k) (e:=e) H a i;exact eu f c (h q w' g)
def M5 {q:Nat} {L:List Ent} (H:Sep w0 S rs w) (k:At rs (vV q b D L) put)
    (h1: ∀p h w',L.Perm (p::h)->Sep w0 S (put (Uf q b D h p)) w'->FL P r n ops Q rest (upd σ d (.tuple #[.bool true,str p.1,p.2])) w')
    (h2:L=[]->FL P r n ops Q rest (upd σ d (.tuple #[.bool false])) w) (i:evF σ x=.pointer (some ⟨q,0,none⟩):=by exact rfl) (c:Nat.blt d n=true:=by exact rfl):
    FL P r n ops Q (⟨some d,.next x false,ty,pos,after,none⟩::rest) σ w:=by
  rcases KX (P:=P) (ty:=ty) H k i with⟨e,a⟩ | ⟨p,h,w',f,a,g⟩
  . exact eu a c (h2 e)
  exact eu a c (h1 p h w' f g)
def Y9 {U k e:Td} [l:IsMap P T k e] [j:mD P k] {i:L8} (H:Sep w0 S rs w) (a:At rs (iD b D) put) (f:evF σ x=.map (some b):=by exact rfl) (g:evF σ y=str i:=by exact rfl)
    (h: ∀w',Sep w0 S (put (iD b (Xw D i))) w'->FL P r n ops Q rest σ w'):
    FL P r n ops Q (⟨none,.call {callee:=.builtin .delete,args:= #[x,y],argTypes:= #[T,U]},ty,pos,after,none⟩::rest) σ w:=by
  obtain⟨w',c,d⟩:=OV (P:=P) (ty:=ty) (T:=T) (U:=U) (k:=k) (e:=e) H a f g;exact ahU c (h w' d)
def TF (f:eY n ops=true) (e:Nat) (a:LNB) {z:Od} {k el:Td} [IsMap P T k el] [mD P k] {i:L8} {v:Value} (H:Sep w0 S rs w) (c:At rs (iD b D) put)
    (j:ops[e]? =some ⟨none,.mapUpdate T x y z,ty,pos,after,guard⟩:=by exact rfl)
    (l:Region.wanted ⟨none,.mapUpdate T x y z,ty,pos,after,guard⟩ (dG ops σ)=true:=by kernel_rfl) (m:evF σ x=.map (some b):=by exact rfl) (o:evF σ y=str i:=by exact rfl) (q:evF σ z=v:=by exact rfl)
    (d:gy ops lv (pd.map (·.1)) e=true:=by kernel_rfl) (g:pd.filter (λp=> !((above ops e).contains p.1))=a:=by exact pD)
    (h: ∀w',Sep w0 S (put (iD b (Bc D i v))) w'->jK P ops σ w' a/\FG P r n ops Q (lv.set e true) a σ w'):FG P r n ops Q lv pd σ w:=
  Ww f e a j l (A9 (P:=P) (T:=T) (k:=k) (e:=el) H c m o q) d g h
end
variable {P:Program} {r:Option Nat} {n:Nat} {ops:AO} {Q:Post} {σ:St} {w w0:Wd} {S:NP} {rs:List HP} {ty:Td} {pos:String} {after:Array Edge} {guard:Option (Nat×Bool)} {lv:List Bool} {pd:LNB}
def WR (e:eY n ops=true) (i:Nat) (k:LNB) {cs:LV} (H:Sep w0 S rs w)
    (o:evF σ x=v) (c:v.cells=cs.toArray) (g:ops[i]? =some ⟨some d,.box T x,ty,pos,after,guard⟩:=by exact rfl)
    (m:Region.wanted ⟨some d,.box T x,ty,pos,after,guard⟩ (dG ops σ)=true:=by kernel_rfl)
    (a:oK ops lv (pd.map (·.1)) i=true:=by kernel_rfl) (f:pd.filter (λp=> !((above ops i).contains p.1))=k:=by exact pD)
    (h: ∀b w',Sep w0 S (blk b cs T::rs) w'->jK P ops (upd σ d (.pointer (some ⟨b,0,none⟩))) w' k/\FG P r n ops Q (lv.set i true) k (upd σ d (.pointer (some ⟨b,0,none⟩))) w'):pV P r n ops Q lv pd σ w i:=
  F8 (C:=λv w'=>∃b,v=.pointer (some ⟨b,0,none⟩)/\Sep w0 S (blk b cs T::rs) w') e i k g m ⟨_,_,ah.alc o c,_,rfl,H.alloc _⟩ a f (λv w' l=>by obtain⟨b,rfl,j⟩:=l;exact h b w' j)
variable {k:List aF} {Dh:List Ent}
def Sep.pick {g:Type} {f:g->HP} {L:List g} {i:Nat} {x:g} {rs:List HP} (H:Sep w0 S (rs++L.map f) w) (h:L[i]? =some x):Sep w0 S (f x::(rs++(L.eraseIdx i).map f)) w:=by
 have hi:i<L.length:=(zba.1 h).1
 have e:L=L.take i++x::L.drop (i+1):=by
  have k:=zbs i L
  have d:L.drop i=x::L.drop (i+1):=by
   rw[zbn hi]
   congr 1
   exact(zba.1 h).2
  rw[d]at k;exact k.symm
 have c:L.eraseIdx i=L.take i++L.drop (i+1):=List.eraseIdx_eq_take_drop_succ L i;rw[c];rw[e]at H
 have a:Sep w0 S ((rs++(L.take i).map f)++f x::(L.drop (i+1)).map f) w:=by
  rw[zbp];simpa using H
 have b:=a.front;rw[zan,<-zbp];exact b
section
attribute [local irreducible] FW FL FG FGn jX lg gD l7 Qfn ah
structure vL where
 b:Nat
 kv:Value
 sv:Value
 key:List aF
 ns:List Int
def M6 (c:vL):HP:=dx (blk c.b [c.kv,c.sv] 435) (dx (aY 48 3 aj c.kv c.key) (aY 189 3 dH c.sv c.ns))
def TG (c:vL):Ent:=(fJ c.key,aC c.b)
abbrev gV:=Value×Value×List aF×List Int
def iH (s:gV):Ent:=(fJ s.2.2.1,agg [s.1,s.2.1])
def iC (w:Wd) (L:List gV):Prop:=∀s∈L,(aP w s.1 aj 3 s.2.2.1/\aP w s.2.1 oZ 1 s.2.2.2)/\iA s.2.2.1
section
variable {w:Wd} {F:NP}
def WS {s t C q z keys sums bc:Nat} {E A Eg:Td} (g: ∀a,aS F w a->aP a v aj 3 k) (j:k.length<=64) (c:iA k) (f: ∀a,aS F w a->gK a)
    (m: ∀a,aS F w a->iB a s [aC C] E) (d: ∀a,aS F w a->iB a t [.map (some q)] A)
    (l:(dx (iD q D) (iD z Dh)).ok F w) (e:mW D (fJ k)=some (aC bc)):
    aX Tryz.prog 403 [v,aC t,aC s] w λu w'=>u=aC bc/\cO F (dx (iD q D) (iD z Dh)) w w':=by
  have H:=(Sep.dA l).bW;refine uU Tryz.func403 ?_;refine Kz (aaU (g _ H.au) j c (f _ H.au)) (λp b o=>?_);refine V1 ?_;refine eP (d _ b.au) (h:=?_);refine Mv ?_;refine eu (nZ (i:=fJ k) b At0 rfl rfl) rfl ?_;rw[e];dsimp only[Option.getD_some];refine O1 ?_;refine Qn (Cd rfl (λS=>?_) (λS=>?_))
  . exact zas S sM
  refine V0 ?_;refine eP (d _ b.au) (h:=?_);refine Mv ?_;refine eu (nZ (i:=fJ k) b At0 rfl rfl) rfl ?_;rw[e];dsimp only[Option.getD_some];refine V1 ?_;exact⟨rfl,b.aZ.bf⟩
theorem WT {b2 b5 bg bm bh keys sums:Nat} {E2 E5 Eg:Td} {hv nv:Value} {ns:List Int} (hk: ∀a,aS F w a->aP a v aj 3 k) (hn:k.length<=64) (A:iA k) (hT: ∀a,aS F w a->gK a)
    (V: ∀a,aS F w a->iB a b2 [aC bg] E2) (W: ∀a,aS F w a->iB a b5 [.map (some bm)] E5) (X: ∀a,aS F w a->iB a bg (q9 keys sums bh) Eg) (XO:sums<=64)
    (hz:(mW Dh (fJ k)).getD (agg [.slice none 0 0,.slice none 0 0])=agg [hv,nv]) (J: ∀a,aS F w a->aP a nv oZ 1 ns) (hnl:ns.length<=sums+1) (Q: ∀n∈ns,cB n)
    (hp:(dx (iD bm D) (iD bh Dh)).ok F w) (hd:mW D (fJ k)=none):
    aX Tryz.prog 403 [v,aC b5,aC b2] w λu w'=>∃c:vL,u=aC c.b/\(c.key=k/\c.ns=ns++List.replicate (sums+1-ns.length) 0)/\cO F (dx (M6 c) (dx (iD bm (Bc D (fJ k) (aC c.b))) (iD bh Dh))) w w':=by
  have H:=(Sep.dA hp).bW;obtain⟨N,cn,rfl,⟨hcn,aqx⟩,_⟩:=J w (aS.refl _ _);refine uU Tryz.func403 ?_;refine Kz (aaU (hk _ H.au) hn A (hT _ H.au)) (λw4 H4 k3=>?_);refine V1 ?_;refine eP (W _ H4.au) (h:=?_);refine Mv ?_;refine eu (nZ (i:=fJ k) H4 At0 rfl rfl) rfl ?_;rw[hd];dsimp only[Option.getD_none];refine O1 ?_;refine Qn (Cd rfl (λIe=>?_) (λIe=>?_))
  . refine dU (λx:(OA×Nat)×Nat×Nat=>[(1,aC b5),(2,aC b2),(5,str (fJ k)),(6,aC x.2.2)]) (λx w'=>Mw.Sep w F [blk x.2.2 [.slice x.1.1 k.length x.1.2,.slice (some ⟨x.2.1,0,none⟩) (sums+1) (sums+1)] 435,aY 48 3 aj (.slice x.1.1 k.length x.1.2) k,vE 189 3 (.slice (some ⟨x.2.1,0,none⟩) (sums+1) (sums+1)) (sums+1) ((List.replicate (sums+1) (0:Int)).flatMap dH),iD bm D,iD bh Dh] w') ?_ ?_
    . refine Dz (λS wa p=>?_)
      refine V1 ?_;refine Gl S 2 rfl rfl (ah.nP rfl (V _ p.au) rfl) (V2 ?_);refine GS (Gt rfl (ah.nP rfl (X _ p.au) rfl) ?_);refine Gc S 6 ((sums+1:Nat):Int) ?_;refine jw S (e1:=1) (e2:=7) kR ?_ ?_
      . refine jS S 1 [(6,true),(5,false),(4,true),(3,true),(2,false)] p (qw (hk _ p.au) oM) (h:=λy wb _ L ka=>?_)
        obtain⟨Y,g,rfl,_,_⟩:=Sep.bX L At0;refine⟨av ((bE rfl kR (ah.nP rfl (X _ L.au) rfl) rfl (av (av ((bE rfl kR (ah.nP rfl (V _ L.au) rfl) rfl (dw))))))),?_⟩;refine aaV (t:=338) S 7 _ L (k:=sums+1) (cs:=(List.replicate (sums+1) (0:Int)).flatMap dH) (hcs:=by exact rV (enc:=dH) dC 0 (sums+1)) (hk:=by unfold maxLen;omega) (hb:=by omega) (h:=λd wc O=>?_);have O:=Sep.nC (n:=sums+1) (s:=3) O At0 (by rw[jh (jl.len (enc:=dH) (k:=3)),zda]) kS;refine⟨sT,?_⟩;refine Gp S 8 rfl rfl (λ_=>(ah.build (bQ.one rfl rfl rfl sM rfl (bQ.one rfl rfl rfl sM rfl bQ.nil)))) (M4 S 9 _ O (cs:=[.slice Y k.length g,.slice (some ⟨d,0,none⟩) (sums+1) (sums+1)]) rfl rfl (h:=λbc wd Hd=>⟨sT,?_⟩));refine V1 ?_;exact aA ((Y,g),d,bc) tR Hd.aR.aJ
      refine M0 (t:=338) S 7 _ p (k:=sums+1) (cs:=(List.replicate (sums+1) (0:Int)).flatMap dH) (hcs:=by exact rV (enc:=dH) dC 0 (sums+1)) (hk:=by unfold maxLen;omega) (hb:=by omega) (h:=λd we M=>?_);have M:=Sep.nC (n:=sums+1) (s:=3) M At0 (by rw[jh (jl.len (enc:=dH) (k:=3)),zda]) kS;refine⟨sT,?_⟩;refine dF S 1 _ M (qw (hk _ M.au) oM) (h:=λy wf _ Hf kb=>?_);obtain⟨Y,g,rfl,_,_⟩:=Sep.bX Hf At0;refine⟨sT,?_⟩;refine Gp S 8 rfl rfl (λ_=>(ah.build (bQ.one rfl rfl rfl sM rfl (bQ.one rfl rfl rfl sM rfl bQ.nil)))) (M4 S 9 _ Hf (cs:=[.slice Y k.length g,.slice (some ⟨d,0,none⟩) (sums+1) (sums+1)]) rfl rfl (h:=λbc wg Hg=>⟨sT,?_⟩));refine V1 ?_;exact aA ((Y,g),d,bc) tR Hg
    rintro⟨⟨Y,g⟩,d,bc⟩ τ wh q;dsimp only at q;refine Lp ?_;refine V0 ?_;refine eP (V _ q.au) (h:=?_);refine V2 ?_;refine eP (X _ q.au) (h:=?_);refine Mv ?_;refine eu (v:=agg [hv,.slice N ns.length cn]) (by rw[<-hz];exact nZ (i:=fJ k) q At4 rfl rfl) rfl ?_;refine Vv (ah.Xl rfl rfl) (V2 ?_);have E:sums+1=(List.replicate (sums+1) (0:Int)).length:=List.length_replicate.symm;have C:List.replicate (sums+1) (0:Int)=ns.take 0++List.replicate (sums+1-0) 0:=rfl
    refine aM (λi:Nat=>[(1,aC b5),(2,aC b2),(5,str (fJ k)),(6,aC bc),(31,.slice N ns.length cn),(32,I ns.length),(33,I i)]) (λi w'=>i<=ns.length/\Mw.Sep w F [aY 189 3 dH (.slice (some ⟨d,0,none⟩) (sums+1) (sums+1)) (ns.take i++List.replicate (sums+1-i) 0),blk bc [.slice Y k.length g,.slice (some ⟨d,0,none⟩) (sums+1) (sums+1)] 435,aY 48 3 aj (.slice Y k.length g) k,iD bm D,iD bh Dh] w') (λi _=>ns.length-i) 0 tR ⟨zai _,by
      have T:=q.aR;unfold aY;rw[<-C,<-E];exact T⟩ (λi τ wi hI=>?_)
    clear C E;obtain⟨hi,z⟩:=hI;refine Lp ?_;refine Cz (λIf=>?_) (λIf=>?_)
    . have G:i<ns.length:=oM
      obtain⟨m,P⟩:=aN G;have j:=λa T=>bJ (J a T);have o:sums+1=(ns.take i++List.replicate (sums+1-i) (0:Int)).length:=by rw[zad,zah,zda];omega
      have K:(ns.take i++List.replicate (sums+1-i) (0:Int)).set i m=ns.take (i+1)++List.replicate (sums+1-(i+1)) 0:=by
        rw[zdq _ _ Io,zah,zcf hi,zdw,show sums+1-i=(sums+1-(i+1))+1 from oM,zex,zcz,zaq,P,zbp];rfl
      refine V1 ?_;refine Vv (ah.fT rfl rfl (j _ z.au) G) (Vv (ah.dY (f:=0) rfl (Sep.aI _) (j _ z.au) P rfl) ?_);refine Dz (λSb wj Hj=>?_);refine V6 ?_;refine dS Sb 6 [(4,true),(3,false),(2,true),(1,true),(0,true)] Hj (Tk m (Q m (zag P))) (h:=λwk Hk kc=>⟨sL,?_⟩);refine GS (Gn rfl (λ_=>ah.yA (enc:=dH) (l:=ns.take i++List.replicate (sums+1-i) (0:Int)) o rfl rfl (dZ o Hk At0) oM) ?_);refine Jd Sb 8 _ (i:=i) m o Hk At0 oM rfl (h:=λwl Hl=>⟨sT,?_⟩);rw[K]at Hl;refine V2 ?_;exact ak (i+1) tR ⟨oM,Hl⟩ oM
    have r:i=ns.length:=oM;rw[r,zbo]at z;refine V0 ?_;refine eP (W _ z.au) (h:=?_);refine V2 ?_;refine DW (i:=fJ k) (v:=aC bc) z At3 (h:=λwm R=>?_);refine Nx (eP (W _ R.au) (h:=?_));refine Mv ?_;have Z:mW (Bc D (fJ k) (aC bc)) (fJ k)=some (aC bc):=by rw[agF,zac rfl]
    refine eu (nZ (i:=fJ k) R At3 rfl rfl) rfl ?_;rw[Z];dsimp only[Option.getD_some];refine V1 ?_;have e:(vL.mk bc (.slice Y k.length g) (.slice (some ⟨d,0,none⟩) (sums+1) (sums+1)) k (ns++List.replicate (sums+1-ns.length) 0)).b=bc:=rfl;exact⟨⟨bc,.slice Y k.length g,.slice (some ⟨d,0,none⟩) (sums+1) (sums+1),k,ns++List.replicate (sums+1-ns.length) 0⟩,rfl,⟨rfl,rfl⟩,(R.eZ.eZ.aZ.aJ.bB.aZ.aR.aZ.aZ).bf⟩
  cases Ie
end
open Go.Proofs.Tryz
structure acW (sums:Nat) (E:List bT) (K:List (List aF)) (C:List vL) (D:List Ent):Prop where
 keys:(C.map (·.key)).Perm K
 nums: ∀c∈C,c.ns=fu sums E c.key
 fit: ∀c∈C,iA c.key
 data:D.Perm (C.map TG)
def WU {C:List vL} (j:D.Perm (C.map TG)) (l: ∀c∈C,iA c.key) (m:iA k) (h:mW D (fJ k)=some v): ∃(i:Nat) (c:vL),C[i]? =some c/\c.key=k/\v=aC c.b:=by
 obtain⟨c,a,e⟩:=zav.1 (j.mem_iff.1 (agE h));obtain⟨i,hi,d⟩:=zew a;unfold TG at e;injection e with f g
 exact⟨i,c,by rw[zaa hi,d],CG (l c a) m f,g.symm⟩
def afI {C:List vL} (a:D.Perm (C.map TG)) (h:mW D (fJ k)=none): ∀c∈C,c.key≠k:=λc b e=>
 Dp.1 h (zav.2 ⟨TG c,a.mem_iff.2 (zdj b),by rw[<-e];rfl⟩)
def Zb {c:Type} {L:List c} {i:Nat} {x:c} (h:L[i]? =some x):(x::L.eraseIdx i).Perm L:=by
 have hi:i<L.length:=(zba.1 h).1;have k:=zbs i L
 have a:L.drop i=x::L.drop (i+1):=by
  rw[zbn hi]
  congr 1
  exact(zba.1 h).2
 rw[List.eraseIdx_eq_take_drop_succ L i]
 conv=>rhs;rw[<-k,a]
 exact List.perm_middle.symm
section
variable {w:Wd} {F:NP}
def WV {C E bg A H keys sums:Nat} {J K Eg:Td} {L G:Value} {z:List Int} (p: ∀a,aS F w a->aP a v aj 3 k) (q:k.length<=64) (d:iA k) (o: ∀a,aS F w a->gK a)
    (l: ∀a,aS F w a->iB a C [aC bg] J) (m: ∀a,aS F w a->iB a E [.map (some A)] K) (t: ∀a,aS F w a->iB a bg (q9 keys sums H) Eg) (j:sums<=64)
    (x:(mW Dh (fJ k)).getD (agg [.slice none 0 0,.slice none 0 0])=agg [L,G]) (i: ∀a,aS F w a->aP a G oZ 1 z) (g:z.length<=sums+1) (f: ∀n∈z,cB n)
    (s:(dx (iD A D) (iD H Dh)).ok F w) (e:mW D (fJ k)=none\/∃bc,mW D (fJ k)=some (aC bc)):
    aX Tryz.prog 403 [v,aC E,aC C] w λu w'=>(∃bc,mW D (fJ k)=some (aC bc)/\u=aC bc/\cO F (dx (iD A D) (iD H Dh)) w w')\/
      (mW D (fJ k)=none/\∃c:vL,u=aC c.b/\(c.key=k/\c.ns=z++List.replicate (sums+1-z.length) 0)/\cO F (dx (M6 c) (dx (iD A (Bc D (fJ k) (aC c.b))) (iD H Dh))) w w'):=by
  rcases e with e | ⟨bc,e⟩
  . exact aX.mono (WT p q d o l m t j x i g f s e) λu w' h=>.inr ⟨e,h⟩
  exact aX.mono (WS (keys:=keys) (sums:=sums) (Eg:=Eg) p q d o l m s e) λu w' h=>.inl ⟨bc,e,h⟩
theorem Zc {bg bh keys sums:Nat} {Eg:Td} {Z:List xA} {E:List bT} (hg: ∀k,aS F w k->iB k bg (q9 keys sums bh) Eg)
    (hv: ∀k,aS F w k->aP k v qE 3 Z) (hZ: ∀k,aS F w k->zh k Z) (hT: ∀k,aS F w k->gK k)
    (XO:sums<=16) (hkl: ∀z∈Z,z.2.2.key.length<=16/\iA z.2.2.key) (hvl: ∀z∈Z,z.2.2.vals.length=sums) (hf: ∀z∈Z,cB z.2.2.w/\∀c∈z.2.2.vals,cB c.n) (hn:Z.length<=1000)
    (an7: ∀z∈Z,∃hv nv ns,(mW Dh (fJ z.2.2.key)).getD (agg [.slice none 0 0,.slice none 0 0])=agg [hv,nv]/\(∀k,aS F w k->aP k nv oZ 1 ns)/\ns.length<=sums+1/\(∀n∈ns,cB n)/\ns++List.replicate (sums+1-ns.length) 0=fu sums E z.2.2.key)
    (hp:(iD bh Dh).ok F w):
    aX Tryz.prog 395 [aC bg,v] w λu w'=>∃(J:Nat) (D:List Ent) (C:List vL),u=.map (some J)/\acW sums (E++Z.map (·.2.2)) (gN (Z.map (·.2.2))) C D/\Mw.Sep w F (iD J D::iD bh Dh::C.map M6) w':=by
  have H:=Sep.dA hp;obtain⟨A,m,rfl,⟨hm,Gj⟩,_⟩:=hv w (aS.refl _ _);refine dn Tryz.func395 ?_;refine Sr (bK H (cs:=[aC bg]) rfl (h:=λO w2 H2 k1=>?_));refine V1 ?_;refine vG H2 (h:=λJ w5 H5 k4=>?_);have H5:=Sep.Ud H5 At0;refine Az (λR w7 H7 k6=>?_);refine Uz (λw9 H9=>?_);refine V5 ?_;refine aM (λx:(List vL×List Ent)×Nat=>[(1,.slice A Z.length m),(2,aC O),(5,aC R),(6,.func (.func 403) #[] #[aC R,aC O]),(14,.slice A Z.length m),(15,I Z.length),(16,I x.2)]) (λx w'=>(x.2<=Z.length/\acW sums (E++(Z.take x.2).map (·.2.2)) (gN ((Z.take x.2).map (·.2.2))) x.1.1 x.1.2)/\Mw.Sep w F (dx (blk R [.map (some J)] 431) (blk O [aC bg] 127)::dx (iD J x.1.2) (iD bh Dh)::x.1.1.map M6) w') (λx _=>Z.length-x.2) (([],[]),0) tR ⟨⟨zai _,⟨List.Perm.refl _,λc hc=>by simp at hc,λc hc=>by simp at hc,List.Perm.refl _⟩⟩,H9.aR.aJ.aZ.aR.aR.aZ.aJ⟩ (λx τ wa hI=>?_);obtain⟨⟨C,D⟩,i⟩:=x;obtain⟨⟨hi,p⟩,Ha⟩:=hI;dsimp only at hi p Ha;refine Lp ?_;refine Cz (λIe=>?_) (λIe=>?_)
  . have yL:i<Z.length:=oM
    obtain⟨z,hz⟩:=aN yL;have G:=zag hz;obtain⟨kv,vv,e⟩:=z;have hKw: ∀k,aS F w k->aP k kv aj 3 e.key:=λk o=>(hZ k o _ G).1;have hVw: ∀k,aS F w k->aP k vv aj 3 e.vals:=λk o=>(hZ k o _ G).2;obtain⟨K,ck,rfl,_,_⟩:=hKw w (aS.refl _ _);obtain⟨V,cv,rfl,_,_⟩:=hVw w (aS.refl _ _);obtain⟨an9,q⟩:=hkl _ G;have aoa:=hvl _ G;obtain⟨hfw,hfv⟩:=hf _ G;obtain⟨hv0,nv0,ns0,hi1,hi2,hi3,hi4,hi5⟩:=an7 _ G;dsimp only at an9 q aoa hfw hfv hi1 hi5;have Y:(Z.take (i+1)).map (λz=>z.2.2)=(Z.take i).map (λz=>z.2.2)++[e]:=by rw[zaq,hz,zan];rfl
    refine V0 ?_;refine Vv (ah.fT rfl rfl (bJ (hv _ Ha.au)) yL) (Vv (ah.iT rfl (Sep.aI _) (bJ (hv _ Ha.au)) hz) ?_);refine Az (λb8 wb Hb ka=>?_);refine Tz (λwc Hc=>?_);refine V3 ?_;have hnd:=Sep.alB (Hc.aR.bW) At0;obtain⟨F0,hpF,hS0,hQ0,N⟩:=Sep.BA (Hc.aJ) At1;have X: ∀k,aS F0 _ k->aS F w k:=λk o=>Mw.aS.into Hc.au hS0 o
    have t:mW D (fJ e.key)=none\/∃bc,mW D (fJ e.key)=some (aC bc):=by
      cases y:mW D (fJ e.key)with
      | none=>exact .inl rfl
      | some u=>
        obtain⟨j,c,_,_,rfl⟩:=WU p.data p.fit q y;exact .inr ⟨c.b,rfl⟩
    refine fQ (fs:=[]) (cs:=[aC R,aC O]) (vals:=[.slice K e.key.length ck]) rfl (WV (keys:=keys) (sums:=sums) (bg:=bg) (Eg:=Eg) (λk o=>hKw k (X k o)) oM q (λk o=>hT k (X k o)) (λk o=>by obtain⟨Fq,F1,F2,_,_,_,h2⟩:=hQ0 k o;exact h2.2) (λk o=>by obtain⟨Fq,F1,F2,_,_,h2,_⟩:=hQ0 k o;exact h2.2) (λk o=>hg k (X k o)) oM hi1 (λk o=>hi2 k (X k o)) hi3 hi4 hpF t) rfl rfl (λv' wd hv=>?_)
    have akj: ∃(c:vL) (Q:List vL) (D2:List Ent),v'=aC c.b/\c.key=e.key/\c.ns=fu sums (E++(Z.take i).map (λz=>z.2.2)) e.key/\((c::Q).map (λd=>d.key)).Perm (gN ((Z.take (i+1)).map λz=>z.2.2))/\(∀d∈Q,d.key≠e.key/\d.ns=fu sums (E++(Z.take i).map (λz=>z.2.2)) d.key/\iA d.key)/\D2.Perm ((c::Q).map TG)/\Mw.Sep w F (M6 c::dx (blk R [.map (some J)] 431) (blk O [aC bg] 127)::blk b8 (qE (.slice K e.key.length ck,.slice V e.vals.length cv,e)) 427::dx (iD J D2) (iD bh Dh)::Q.map M6) wd:=by
      have aoc:(C.map (·.key)).Nodup:=p.keys.symm.nodup (Fp _)
      rcases hv with⟨bc,y,rfl,hk1,F1,hq1,hs1⟩ | ⟨y,c,rfl,⟨f,L⟩,hk1,F1,hq1,hs1⟩
      . obtain⟨j,c,hj,f,hcb⟩:=WU p.data p.fit q y
        have H3:=Sep.pick (rs:=[_,_,_]) (N _ F1 _ hk1 hq1 hs1) hj;have r:(c::C.eraseIdx j).Perm C:=Zb hj;have hcm:=zag hj;refine⟨c,C.eraseIdx j,D,hcb,f,by rw[<-f];exact p.nums c hcm,?_,λd t=>?_,p.data.trans (r.symm.map _),H3⟩
        . rw[Y,oF,zac (p.keys.mem_iff.1 (zav.2 ⟨c,hcm,f⟩))]
          exact(r.map _).trans p.keys
        have hdC:=r.mem_iff.1 (zap _ t);refine⟨λh=>?_,p.nums d hdC,p.fit d hdC⟩;have h2:=(r.map (·.key)).symm.nodup aoc;rw[zbc,zfg]at h2;exact h2.1 (zav.2 ⟨d,t,by rw[h,f]⟩)
      have hno:=afI p.data y
      have hnk:e.key∉gN ((Z.take i).map λz=>z.2.2):=λh=>by
        obtain⟨d,t,hde⟩:=zav.1 (p.keys.mem_iff.2 h);exact hno d t hde
      refine⟨c,C,_,rfl,f,by rw[L,hi5];exact(Bt hnk).symm,?_,λd t=>⟨hno d t,p.nums d t,p.fit d t⟩,?_,(N _ F1 _ hk1 hq1 hs1).aR.bW.bB.bB.aR⟩
      . rw[Y,oF,zab hnk,zbc,f]
        exact(List.Perm.cons _ p.keys).trans (List.perm_append_singleton _ _).symm
      have e1:Bc D (fJ e.key) (aC c.b)=D++[(fJ e.key,aC c.b)]:=by unfold Bc;rw[y];rfl
      rw[e1,zbc];refine(List.perm_append_singleton _ _).trans ?_;unfold TG;rw[f];exact List.Perm.cons _ p.data
    obtain⟨⟨bc,P,svc,kc,a⟩,Q,D2,rfl,f,L,hpk,hCr,hD2,Hd⟩:=akj;dsimp only at f L hpk hD2 Hd;subst f;have Hd:=(Hd.bW.aJ.bW).aJ;dsimp only at Hd;obtain⟨Sv,T,rfl,_,_⟩:=Sep.bX Hd At0;have hnl:a.length=sums+1:=by rw[L,lQ]
    have S:0<a.length:=oM;obtain⟨n0,hn0⟩:=aN S
    have ama:a.set 0 (n0+e.w)=upN a e 1:=by
      have o:=aaG (x:=e) hn0;rw[afb]at o;exact o
    refine Dz (λSa we He=>?_);refine V8 ?_;refine GS (Gn rfl (λ_=>ah.fT (i:=0) (enc:=dH) rfl rfl (eF He At0) S) ?_);refine GS (Gt rfl (ah.iK (i:=0) rfl (eF He At0) hn0) ?_);refine V2 ?_;refine dS Sa 12 [(9,false),(8,true),(7,false),(6,true),(5,true),(4,true),(3,false),(2,true),(1,true),(0,true)] He (Tk e.w hfw) (h:=λwf Hf kb=>⟨(bE rfl kR (ah.iK (i:=0) rfl (eF Hf At0) hn0) rfl (av (jG Hf (h:=av (av (av (jG Hf (h:=av (av (av (dw))))))))))),?_⟩);refine dS Sa 13 [(3,false),(2,true),(1,true),(0,true)] Hf (Tm n0 e.w) (h:=λwg Hg kd=>⟨sL,?_⟩);refine GS (Gn rfl (λ_=>ah.fT (i:=0) (enc:=dH) rfl rfl (eF Hg At0) S) ?_);refine Jd Sa 15 _ (i:=0) (n0+e.w) rfl Hg At0 S rfl (h:=λwh Hh=>⟨sT,?_⟩);rw[ama]at Hh;refine V4 ?_;refine aM (λj:Nat=>[(1,.slice A Z.length m),(2,aC O),(5,aC R),(6,.func (.func 403) #[] #[aC R,aC O]),(8,aC b8),(9,aC bc),(14,.slice A Z.length m),(15,I Z.length),(16,I i),(40,.slice V e.vals.length cv),(41,I e.vals.length),(42,I j)]) (λj w'=>j<=e.vals.length/\Mw.Sep w F (aY 189 3 dH (.slice Sv a.length T) (upN a e (j+1))::aY 48 3 aj P e.key::blk bc [P,.slice Sv a.length T] 435::dx (blk R [.map (some J)] 431) (blk O [aC bg] 127)::blk b8 (qE (.slice K e.key.length ck,.slice V e.vals.length cv,e)) 427::dx (iD J D2) (iD bh Dh)::Q.map M6) w') (λj _=>e.vals.length-j) 0 tR ⟨zai _,Hh⟩ (λj τ wi hJ=>?_);obtain⟨hj,Hi⟩:=hJ;have g:a.length=(upN a e (j+1)).length:=(Tc _ _ _).symm
    refine Lp ?_;refine Cz (λIf=>?_) (λIf=>?_)
    . have amb:j<e.vals.length:=oM
      obtain⟨W,hcj⟩:=aN amb;have hfj:=hfv W (zag hcj);have hjn:j+1<a.length:=oM;obtain⟨nj,hnj⟩:=aN hjn;have huj:(upN a e (j+1))[j+1]? =some nj:=by rw[Ab hnj,zab oM]
      have s:EY e (j+1)=if W.null=true then 0 else e.w*W.n:=by
        unfold EY;rw[zab oM,zgi,zao,hcj];rfl
      refine V1 ?_;refine Vv (ah.fT rfl rfl (bJ (hVw _ Hi.au)) amb) (Vv (ah.iT rfl (Sep.aI _) (bJ (hVw _ Hi.au)) hcj) ?_);refine Az (λb11 wj Hj ke=>?_);refine Am ?_;refine Tz (λwk Hk=>?_);refine V2 ?_;refine Vv (ah.not rfl) (Qn ?_);refine Cd rfl (λIg=>?_) (λIg=>?_)
      . have M:W.null=false:=by simpa using Ig
        rw[M,zab dC]at s;have amc:(upN a e (j+1)).set (j+1) (nj+e.w*W.n)=upN a e (j+1+1):=by rw[<-aaG hnj,s]
        refine Dz (λSb wl Hl=>?_);refine V5 ?_;refine Gc Sb 5 ((j+1:Nat):Int) ?_;refine V5 ?_;refine Gc Sb 11 ((j+1:Nat):Int) ?_;refine GS (Gn rfl (λ_=>ah.yA (i:=j+1) (enc:=dH) (l:=upN a e (j+1)) g rfl rfl (dZ g Hl At1) oM) ?_);refine GS (Gt rfl (ah.iK (i:=j+1) rfl (dZ g Hl At1) huj) ?_);refine V4 ?_;refine dS Sb 18 [(13,false),(12,true),(11,true),(10,true),(9,false),(8,true),(7,true),(6,true),(5,true),(4,true),(3,false),(2,true),(1,true),(0,true)] Hl (ahI e.w W.n hfw hfj) (h:=λwm Hm kf=>⟨(bE rfl kR (ah.iK (i:=j+1) rfl (dZ g Hm At1) huj) rfl (av (av (av (jG Hm (h:=av (av (av (av (av (jG Hm (h:=av (av (av (dw))))))))))))))),?_⟩);refine dS Sb 19 [(5,true),(4,true),(3,false),(2,true),(1,true),(0,true)] Hm (Tm nj (e.w*W.n)) (h:=λwn Hn kg=>⟨sL,?_⟩);refine GS (Gn rfl (λ_=>ah.yA (i:=j+1) (enc:=dH) (l:=upN a e (j+1)) g rfl rfl (dZ g Hn At1) oM) ?_);refine Jd Sb 21 _ (i:=j+1) (nj+e.w*W.n) g Hn At1 oM rfl (h:=λwo Ho=>⟨sT,?_⟩);rw[amc]at Ho;refine V2 ?_;exact ak (j+1) tR ⟨oM,Ho.bN⟩ oM
      have M:W.null=true:=by simpa using Ig
      rw[M,zac rfl]at s;have amd:=afc (ns:=a) s;refine V2 ?_;exact ak (j+1) tR ⟨oM,by rw[amd];exact Hk.bN⟩ oM
    have hjl:j+1=sums+1:=oM
    have ame:upN a e (j+1)=fu sums (E++(Z.take (i+1)).map (λz=>z.2.2)) e.key:=by
      rw[hjl,L,ahA,Y,zbp]
    refine V0 ?_;have akp:Mw.Sep w F (dx (blk R [.map (some J)] 431) (blk O [aC bg] 127)::dx (iD J D2) (iD bh Dh)::(⟨bc,P,.slice Sv a.length T,e.key,upN a e (j+1)⟩::Q:List vL).map M6) _:=(Hi.aJ.aZ.aJ.aZ.aR.bN.aR.aR);refine V2 ?_;exact ak ((⟨bc,P,.slice Sv a.length T,e.key,upN a e (j+1)⟩::Q,D2),i+1) tR ⟨⟨dO,⟨hpk,λd t=>by
    rcases zax.1 t with h | h
    . rw[h];exact ame
    . rw[Y,<-zbp,YP (λh2=>(hCr d h).1 h2.symm)];exact(hCr d h).2.1,λd t=>by
    rcases zax.1 t with h | h
    . rw[h];exact q
    exact(hCr d h).2.2,hD2⟩⟩,akp⟩ dO
  have Gq:i=Z.length:=oM;rw[Gq,zbo]at p;refine V0 ?_;have Hp:=Ha.bW;refine Ld Hp ?_;refine V1 ?_;exact⟨J,D,C,rfl,p,Hp.bN.bN.bW⟩
def qx {l m:List aH} {va vb:Value} (hl:dM w va l) (hm:dM w vb m):
    Rk prog 27 [va,vb] w (.bool (decide (l=m))):=by
  obtain⟨r,hr,g⟩:=hl;obtain⟨s,hs,j⟩:=hm;obtain⟨A,c,rfl,⟨hc,P⟩,D⟩:=hr;obtain⟨B,d,rfl,⟨hd,Q⟩,E⟩:=hs;have J:=g.len;have K:=j.len;have H:=Sep.aI w;refine dn func27 ?_;refine Cz (λv=>?_) (λv=>?_)
  . have k: ¬l=m:=λe=>v (by rw[J,K,e])
    refine V1 ?_;exact⟨by rw[zam k];rfl,H.au⟩
  have O:r.length=s.length:=oM;refine V1 ?_;refine aM (λi:Nat=>[(0,.slice A r.length c),(1,.slice B s.length d),(5,I i)]) (λi w'=>(i<=r.length/\l.take i=m.take i)/\Mw.Sep w noB [] w') (λi _=>r.length-i) 0 tR ⟨⟨zai _,rfl⟩,H⟩ (λi τ wa F=>?_);obtain⟨⟨hi,heq⟩,V⟩:=F;refine Lp ?_;refine Cz (λW=>?_) (λW=>?_)
  . have y:i<r.length:=oM
    have b:i<s.length:=oM;obtain⟨o,R⟩:=aN (l:=l) (show i<l.length from oM);obtain⟨p,T⟩:=aN (l:=m) (show i<m.length from oM);obtain⟨vo,z,L⟩:=g.get R;obtain⟨vp,C,M⟩:=j.get T;have q:=FQ heq R T;refine Dz (λS wb a=>?_);refine V2 ?_;refine GS (Gn rfl (λ_=>ah.fT rfl rfl D y) ?_);refine V1 ?_;refine GS (Gt rfl (ah.dY (f:=1) rfl a D z rfl) ?_);refine V2 ?_;refine GS (Gn rfl (λ_=>ah.fT rfl rfl E b) ?_);refine V1 ?_;refine GS (Gt rfl (ah.dY (f:=1) rfl a E C rfl) ?_);refine V2 ?_;refine gu (t:=28) rfl (λY=>?_) (λY=>?_)
    . refine V2 ?_
      have k: ¬l=m:=λe=>by
        have u:=C9.2 (q.1 (by rw[e]));have Z:=u.1;have n:=u.2;omega
      exact⟨by rw[zam k];rfl,a.au⟩
    refine V2 ?_;refine GS (Gn rfl (λ_=>ah.fT rfl rfl D y) ?_);refine V1 ?_;refine GS (Gt rfl (ah.dY (f:=0) rfl a D z rfl) ?_);refine V2 ?_;refine GS (Gn rfl (λ_=>ah.fT rfl rfl E b) ?_);refine V1 ?_;refine GS (Gt rfl (ah.dY (f:=0) rfl a E C rfl) ?_);refine dS S 22 _ a (uK (L.aK a.au) (M.aK a.au)) (h:=λwc N ka=>⟨sT,?_⟩);refine GS (Gn rfl (λ_=>ah.notP rfl) ?_);refine O1 ?_;refine fZ S kR ?_;refine Cz (λX=>?_) (λX=>?_)
    . refine V1 ?_
      have k: ¬l=m:=λe=>by
        have u:=C9.2 (q.1 (by rw[e]));have Z:=u.1;have n:=u.2
        contradiction
      exact⟨by rw[zam k];rfl,N.au⟩
    refine V1 ?_;have G:l.take (i+1)=m.take (i+1):=q.2 (C9.1 ⟨oM,Decidable.of_not_not (by assumption)⟩);refine V2 ?_;exact ak (i+1) tR ⟨⟨oM,G⟩,N⟩ oM
  have x:l=m:=by
    rw[zaj oM,zaj oM]at heq;exact heq
  refine V1 ?_;exact⟨by rw[zau x];rfl,V.au⟩
def TH {g:Nat} {t:Value} {T:List aH} (c:(dx (blk g [t] 109) (Bz t T)).ok F w) (b:T.length<=1000) (k: ∀o∈T,o.row.length<=1000):
    aX prog 385 [aC g] w λu w'=>∃x:Value×List fH,u=x.1/\x.2.map (·.2)=T/\cO F (dx (dB x.1 x.2) (dx (blk g [t] 109) (Bz t T))) w w':=by
  have H:=(Sep.dA c).bW;refine dL func385 ?_;refine V5 ?_;have h:dM _ t T:=Sep.dh H At1;refine Nz (afE h b k) (λx f d a e=>?_);refine V1 ?_;exact⟨x,rfl,d,(a.aJ.aR.aJ.aZ.aJ.aZ).bf⟩
def acX (keys s:Int):aX prog 57 [I keys,I s] w λu w'=>
    (¬(0<=keys/\keys<=16/\0<=s/\s<=16)->u=.tuple #[.pointer none,I 2]/\aS noB w w')/\
    ((0<=keys/\keys<=16/\0<=s/\s<=16)->∃x:Nat×Nat,u=.tuple #[aC x.1,I 0]/\cO noB (dx (blk x.1 (q9 keys.toNat s.toNat x.2) 166) (iD x.2 [])) w w'):=by
  have H:=Sep.aI w;refine dn func57 ?_;refine Sz (λa=>?_) (λa=>?_)
  . refine V7 ?_
    exact⟨λ_=>⟨rfl,H.au⟩,λh=>oM⟩
  refine Sz (λS=>?_) (λS=>?_)
  . refine V5 ?_
    exact⟨λ_=>⟨rfl,H.au⟩,λh=>oM⟩
  refine Sz (λe=>?_) (λe=>?_)
  . refine V3 ?_
    exact⟨λ_=>⟨rfl,H.au⟩,λh=>oM⟩
  refine Cz (λd=>?_) (λd=>?_)
  . refine V2 ?_
    exact⟨λ_=>⟨rfl,H.au⟩,λh=>oM⟩
  refine V2 ?_;refine vG H (h:=λb m k j=>?_);have k:=Sep.Ud k At0;refine Vb [.bool true,I keys,I s,.map (some b)] ?_;refine bK k (cs:=[.bool true,I keys,I s,.map (some b)]) rfl (h:=λf o c l=>?_);refine V2 ?_;exact⟨λh=>zas oM h,λh=>⟨(f,b),rfl,by
  have g:((keys.toNat:Nat):Int)=keys:=zcv h.1;have i:((s.toNat:Nat):Int)=s:=zcv h.2.2.1;unfold q9;rw[g,i];exact c.aZ.bf⟩⟩
def M7 {a b:List bF} {V W:Value} (G:aP w V aL 7 a) (J:aP w W aL 7 b):Rk prog 22 [V,W] w (.bool (decide (a=b))):=by
  obtain⟨A,m,rfl,⟨N,K⟩,t⟩:=G;obtain⟨B,M,rfl,⟨L,z⟩,u⟩:=J;have H:=Sep.aI w;refine dn func22 ?_;refine Cz (λd=>?_) (λd=>?_)
  . have k: ¬a=b:=λe=>d (by rw[e])
    refine V1 ?_;exact⟨by rw[zam k];rfl,H.au⟩
  have v:a.length=b.length:=oM;refine V1 ?_;refine aM (λi:Nat=>[(0,.slice A a.length m),(1,.slice B b.length M),(5,I i)]) (λi w'=>(i<=a.length/\a.take i=b.take i)/\Mw.Sep w noB [] w') (λi _=>a.length-i) 0 tR ⟨⟨zai _,rfl⟩,H⟩ (λi T O E=>?_);obtain⟨⟨hi,heq⟩,C⟩:=E;refine Lp ?_;refine Cz (λD=>?_) (λD=>?_)
  . have f:i<a.length:=oM
    have h:i<b.length:=oM;obtain⟨x,p⟩:=aN f;obtain⟨y,c⟩:=aN h;refine Dz (λS R g=>?_);refine V2 ?_;refine GS (Gn rfl (λ_=>ah.fT rfl rfl t f) ?_);refine GS (Gt rfl (ah.iT rfl g t p) ?_);refine V2 ?_;refine GS (Gn rfl (λ_=>ah.fT rfl rfl u h) ?_);refine GS (Gt rfl (ah.iT rfl g u c) ?_);refine GS (Gn rfl (λ_=>ah.af8 (enc:=aL) x y rfl rfl) ?_);refine fZ S kR ?_;refine Cz (λj=>?_) (λj=>?_)
    . have k: ¬a=b:=λe=>by
        subst e;rw[p]at c;injection c with c
        exact j c
      refine V1 ?_;exact⟨by rw[zam k];rfl,g.au⟩
    have q:x=y:=Decidable.of_not_not j;have o:a.take (i+1)=b.take (i+1):=by rw[zaq,zaq,p,c,heq,q]
    refine V3 ?_;exact ak (i+1) tR ⟨⟨oM,o⟩,g⟩ oM
  have l:a=b:=by
    have s:=heq;rw[zaj oM,zaj oM]at s;exact s
  refine V1 ?_;exact⟨by rw[zau l];rfl,C.au⟩
def qL {l:List bF} (c:aP w v aL 7 l) (a:l.length<=1000):aX prog 35 [v] w λe w'=>∃x,e=x/\True/\cO noB (aY 50 7 aL x l) w w':=by
 obtain⟨A,m,rfl,⟨f,d⟩,b⟩:=c;have H:=Sep.aI w;refine dL func35 ?_;refine V4 ?_;have k:=Sep.iX H 50 7 aL;refine mq k At0 (b.aK H.au) kP kN (dW (λ_=>rfl) _) (h:=?_);intro g i k;refine V1 ?_;exact⟨_,rfl,trivial,by rw[zby]at k;exact k.bf⟩
def DX {l:List aH} (n:dM w v l) (hn:l.length<=1000) (a: ∀o∈l,o.row.length<=1000):aX prog 64 [v] w λu w'=>∃x:Value×List fH,u=x.1/\x.2.map (·.2)=l/\cO noB (dB x.1 x.2) w w':=by
 obtain⟨r,P,k⟩:=n;obtain⟨A,m,rfl,⟨hm,F⟩,e⟩:=P;have Q:=k.len;have H:=Sep.aI w;refine dL func64 ?_;refine V3 ?_;refine aM (λx:(OA×Nat)×List fH×Nat=>[(0,.slice A r.length m),(3,.slice x.1.1 (aW x.2.1).length x.1.2),(4,I x.2.2)]) (λx w'=>(x.2.2<=r.length/\x.2.1.map (·.2)=l.take x.2.2)/\Mw.Sep w noB [aY 25 2 aD (.slice x.1.1 (aW x.2.1).length x.1.2) (aW x.2.1),xg 48 3 aj (·.1) (λb:fH=>b.2.row) x.2.1] w') (λx _=>r.length-x.2.2) ((none,0),[],0) tR ⟨⟨zai _,rfl⟩,Sep.gQ (bU H) 25 2⟩ (λx τ w5 W=>?_);obtain⟨⟨R,cR⟩,L,i⟩:=x;obtain⟨⟨hi,s⟩,K⟩:=W;dsimp only at hi s K;refine Lp ?_;refine Cz (λO=>?_) (λO=>?_)
 .have p:i<r.length:=oM
  obtain⟨o,E⟩:=aN (l:=l) (show i<l.length from oM);have G:=zag E;obtain⟨vo,d,J⟩:=k.get E;have Z:(aW L).length=L.length:=zae _
  have X:L.length<=i:=by
   have V:=zay List.length s;rw[zae,zah]at V;omega
  refine Dz (λS wa q=>?_);refine V3 ?_;refine GS (Gn rfl (λ_=>ah.fT rfl rfl e p) ?_);refine V1 ?_;refine GS (Gt rfl (ah.dY (f:=0) rfl q e d rfl) ?_);refine Gm S 7 ?_;refine V1 ?_;refine GS (Gn rfl (λ_=>ah.fT rfl rfl e p) ?_);refine V1 ?_;refine GS (Gt rfl (ah.dY (f:=1) rfl q e d rfl) ?_);refine dF S 6 [(11,false),(10,true),(9,true),(8,true),(7,true),(0,true)] q (lV (J.aK q.au) (a o G)) (h:=λy wb _ t ka=>?_);obtain⟨Y,c,rfl,_,_⟩:=Sep.bX t At0;refine⟨(bE rfl kR (ah.dY (f:=1) rfl t e d rfl) rfl (av (av (av (av (av (dw))))))),?_⟩;refine Gb S 12 (aD (.slice Y o.row.length c,o.w)) ?_;refine Gz S 13 _ t ([(Value.slice Y o.row.length c,o.w)].flatMap aD) (h:=λbs wc N=>⟨sT,?_⟩);refine gZ S 14 _ N (news:=[(Value.slice Y o.row.length c,o.w)]) At1 kJ kM (λu hu=>zaz.1 (show([(Value.slice Y o.row.length c,o.w)].flatMap aD).all Value.oneCell'=true from rfl) u hu) (h:=λv9 wd M=>?_);obtain⟨T,z,rfl,_,_⟩:=Sep.bX M At1
  have j:aW L++[(Value.slice Y o.row.length c,o.w)]=aW (L++[(Value.slice Y o.row.length c,o)]):=by
   unfold aW;rw[zan];rfl
  have D:(L++[(Value.slice Y o.row.length c,o)]).map (·.2)=l.take (i+1):=by rw[zan,s,zaq,E];rfl
  refine⟨sT,?_⟩;refine rA S 15 _ (h:=⟨sT,?_⟩);refine V1 ?_;refine Vc ((i+1:Nat):Int) ?_;refine V1 ?_;have g:=(iO (x:=.slice Y o.row.length c) (o:=o) (M.aR.aJ)).aJ;rw[j]at g;exact ak ((T,z),L++[(Value.slice Y o.row.length c,o)],i+1) ⟨rfl,by rw[<-j];rfl,rfl,trivial⟩ ⟨⟨dO,D⟩,g⟩ dO
 have C:l.take i=l:=zaj oM;refine V2 ?_;exact⟨(_,L),rfl,by dsimp only;rw[s,C],K.aZ.bf⟩
end
def zi (keys sums:Nat) (lv:Value):LV:=[I keys,I sums,lv]
abbrev o7:=Value×Value×List aF×List Int
def grC (g:o7):LV:=[g.1,I (g.2.2.2.headD 0),g.2.1]
instance:jl grC 3:=⟨λ_=>rfl⟩
def lF (w:Wd) (G:List o7):Prop:=∀g∈G,aP w g.1 aj 3 g.2.2.1/\aP w g.2.1 oZ 1 (g.2.2.2.drop 1)
def lF.aK {w w':Wd} {G:List o7} (h:lF w G) (a:aS noB w w'):lF w' G:=λg k=>⟨(h g k).1.aK a,(h g k).2.aK a⟩
section
variable {w:Wd}
def Zd (keys s:Int):aX prog 110 [I keys,I s] w λu w'=>
    (¬(0<=keys/\keys<=16/\0<=s/\s<=16)->u=.tuple #[.pointer none,I 2]/\aS noB w w')/\
    ((0<=keys/\keys<=16/\0<=s/\s<=16)->∃x:Nat,u=.tuple #[aC x,I 0]/\cO noB (blk x (zi keys.toNat s.toNat (.slice none 0 0)) 252) w w'):=by
  have H:=Sep.aI w;refine dn func110 ?_;refine Sz (λk=>?_) (λk=>?_)
  . refine V7 ?_
    exact⟨λ_=>⟨rfl,H.au⟩,λh=>oM⟩
  refine Sz (λS=>?_) (λS=>?_)
  . refine V5 ?_
    exact⟨λ_=>⟨rfl,H.au⟩,λh=>oM⟩
  refine Sz (λc=>?_) (λc=>?_)
  . refine V3 ?_
    exact⟨λ_=>⟨rfl,H.au⟩,λh=>oM⟩
  refine Cz (λb=>?_) (λb=>?_)
  . refine V2 ?_
    exact⟨λ_=>⟨rfl,H.au⟩,λh=>oM⟩
  refine V2 ?_;refine Vb [I keys,I s,.slice none 0 0] ?_;refine bK H (cs:=[I keys,I s,.slice none 0 0]) rfl (h:=λd i a g=>?_);refine V2 ?_;exact⟨λh=>zas oM h,λh=>⟨d,rfl,by
  have e:((keys.toNat:Nat):Int)=keys:=zcv h.1;have f:((s.toNat:Nat):Int)=s:=zcv h.2.2.1;unfold zi;rw[e,f];exact a.bf⟩⟩
def Ze {bg keys sums:Nat} {lv:Value} {E:Td} {z:xA} (D:iB w bg (zi keys sums lv) E) (G:aP w z.1 aj 3 z.2.2.key) (J:aP w z.2.1 aj 3 z.2.2.vals):
    Rk prog 181 [aC bg,agg (qE z)] w (.bool (qC keys sums z.2.2)):=by
  obtain⟨kv,vv,e⟩:=z;dsimp only at G J ⊢;obtain⟨K,v,rfl,⟨Y,A⟩,P⟩:=G;obtain⟨V,x,rfl,⟨Z,C⟩,y⟩:=J;rw[WQ];have H:=Sep.aI w;refine dn func181 ?_;refine Sr (bK H (cs:=qE (.slice K e.key.length v,.slice V e.vals.length x,e)) rfl (h:=λu w2 L Q=>?_));refine V2 ?_;refine aM (λi:Nat=>[(0,aC bg),(3,aC u),(5,I i)]) (λi w'=>(i<=e.vals.length/\∀(j:Nat) c,j<i->e.vals[j]? =some c->Ao c=false)/\Mw.Sep w noB [blk u (qE (.slice K e.key.length v,.slice V e.vals.length x,e)) 180] w') (λi _=>e.vals.length-i) 0 tR ⟨⟨zai _,λj c o=>zas o (zdy _)⟩,L⟩ (λi τ w6 X=>?_);obtain⟨⟨hi,f⟩,M⟩:=X;refine Lp ?_;refine Cz (λN=>?_) (λN=>?_)
  . have p:i<e.vals.length:=oM
    obtain⟨c,g⟩:=aN p;refine V3 ?_;refine Vv (ah.fT rfl rfl y p) (Vv (ah.iT rfl M y g) ?_);refine Az (λF wa n ka=>?_);refine Tz (λwb q=>?_);refine Sz (λS=>?_) (λS=>?_)
    . refine V2 ?_
      have a:Ao c=true:=by unfold Ao;simp only[decide_eq_true_eq];first | exact .inl (by assumption) | exact .inr ⟨by assumption,by assumption⟩
      have k:e.vals.any Ao=true:=zgc.2 ⟨c,zag g,a⟩;exact⟨by rw[k,Bool.not_true,Bool.and_false];rfl,q.au⟩
    refine V3 ?_;refine eO (t:=25) rfl (λR=>?_) (λR=>?_)
    . refine Cz (λO=>?_) (λO=>?_)
      . refine V1 ?_
        have a:Ao c=true:=by unfold Ao;simp only[decide_eq_true_eq];first | exact .inl (by assumption) | exact .inr ⟨by assumption,by assumption⟩
        have k:e.vals.any Ao=true:=zgc.2 ⟨c,zag g,a⟩;exact⟨by rw[k,Bool.not_true,Bool.and_false];rfl,q.au⟩
      refine V1 ?_;have a:Ao c=false:=by unfold Ao;simp only[decide_eq_false_iff_not,not_or,not_and];simp_all
      refine V2 ?_;exact ak (i+1) tR ⟨⟨oM,λj d o b=>by
      by_cases m:j=i
      . subst m;rw[g]at b;injection b with b;rw[<-b];exact a
      exact f j d oM b⟩,q.bN⟩ oM
    refine V3 ?_;have a:Ao c=false:=by unfold Ao;simp only[decide_eq_false_iff_not,not_or,not_and];simp_all
    refine V2 ?_;exact ak (i+1) tR ⟨⟨oM,λj d o b=>by
    by_cases m:j=i
    . subst m;rw[g]at b;injection b with b;rw[<-b];exact a
    exact f j d oM b⟩,q.bN⟩ oM
  have k:e.vals.any Ao=false:=by
    rw[List.any_eq_false];intro c g;obtain⟨j,o,m⟩:=zew g;rw[f j c oM (by rw[zaa o,m])]
    decide
  refine Dz (λr wc l=>?_);refine V6 ?_;refine GS (Gt rfl (ah.nP rfl (D.aK l.au) rfl) ?_);refine V2 ?_;refine gu (t:=39) rfl (λT=>?_) (λT=>?_)
  . refine V6 ?_
    refine GS (Gt rfl (ah.nP rfl (D.aK l.au) rfl) ?_);refine V3 ?_
    first
    | exact⟨by rw[k,Bool.not_false,Bool.and_true];exact zay Value.bool (zbg.2 ⟨λh=>⟨oM,oM⟩,λh=>by have s:=h.2;omega⟩),l.au⟩
    | exact⟨by rw[zam (show ¬(e.key.length=keys/\e.vals.length=sums)from λh=>by have W:=h.1;have s:=h.2;omega),zea];rfl,l.au⟩
  refine V2 ?_
  first
  | exact⟨by rw[k,Bool.not_false,Bool.and_true];exact zay Value.bool (zbg.2 ⟨λh=>⟨oM,oM⟩,λh=>by have s:=h.2;omega⟩),l.au⟩
  | exact⟨by rw[zam (show ¬(e.key.length=keys/\e.vals.length=sums)from λh=>by have W:=h.1;have s:=h.2;omega),zea];rfl,l.au⟩
def afJ {G:List o7} {O N:Value} (v:aP w O grC 3 G) (hR:lF w G) (C:aP w N aj 3 k):
    Rk prog 182 [O,N] w (I (zM (G.findIdx? λg=>decide (g.2.2.1=k)))):=by
  obtain⟨A,m,rfl,⟨E,D⟩,u⟩:=v;have H:=Sep.aI w;refine dn func182 ?_;refine V2 ?_;refine aM (λi:Nat=>[(0,.slice A G.length m),(1,N),(5,I i)]) (λi w'=>(i<=G.length/\∀(j:Nat) y,j<i->G[j]? =some y->decide (y.2.2.1=k)=false)/\Mw.Sep w noB [] w') (λi _=>G.length-i) 0 tR ⟨⟨zai _,λj y z=>oM⟩,H⟩ (λi M K x=>?_);obtain⟨⟨hi,b⟩,d⟩:=x;refine Lp ?_;refine Cz (λp=>?_) (λp=>?_)
  . have c:i<G.length:=oM
    obtain⟨g,l⟩:=aN c;have q:=hR g (zag l);refine V2 ?_;refine Vv (ah.fT rfl rfl u c) (V1 ?_);refine Vv (ah.dY (f:=0) rfl d u l rfl) (Mv ?_);refine Kz (uK (q.1.aK d.au) (C.aK d.au)) (λL t J=>?_);refine Cz (λo=>?_) (λo=>?_)
    . have h:G.findIdx? (λg=>decide (g.2.2.1=k))=some i:=uI b l (zau o)
      refine V2 ?_;exact⟨by rw[h];rfl,t.au⟩
    have s:=o;refine V3 ?_;exact ak (i+1) tR ⟨⟨oM,λj y z a=>by
    by_cases e:j=i
    . subst e;rw[l]at a;injection a with a;rw[<-a];exact zam s
    exact b j y oM a⟩,t⟩ oM
  have h:G.findIdx? (λg=>decide (g.2.2.1=k))=none:=qZ λj y a=>b j y (by have:=fP a;omega) a;refine V1 ?_;exact⟨by rw[h];rfl,d.au⟩
end
end
end Go.Proofs.Mw
