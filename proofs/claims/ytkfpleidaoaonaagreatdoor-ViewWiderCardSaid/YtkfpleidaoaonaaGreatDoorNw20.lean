/-
 The document's sums;walked.
-/
import Derived.Test.YtkfpleidaoaonaaGreatDoorNw1
import Derived.Test.YtkfpleidaoaonaaGreatDoorNw3
import Derived.Test.YtkfpleidaoaonaaGreatDoorNw19
import Derived.Test.YtkfpleidaoaonaaGreatDoorNw14
import Derived.Test.YtkfpleidaoaonaaGreatDoorNw2
set_option linter.unusedVariables false
set_option linter.unusedSimpArgs false
namespace Go.Proofs.YtkfpleidaoaonaaGreatDoor
open Go Go.Mw Go.Lib
set_option maxRecDepth 4000
attribute [local irreducible] FW FL FG FGn fZ gG cO gW Qfn Gives
section
variable {w:Wd}
end
theorem su (ns:List Int) (k:List ay) (wt:Int):(iO ns k wt).length<=1:=by
 unfold iO
 split<;>simp
section
variable {w:Wd}
end
section
variable {w:Wd}
end
end Go.Proofs.YtkfpleidaoaonaaGreatDoor
namespace Go.Mw
open Go.RowKit
section
variable {P:Program} {r:Option Nat} {n:Nat} {ops:AO} {Q:Post} {rest:LO} {σ:St} {w w' w0:Wd} {S:NP} {rs:List HP} {put:HP->List HP} {op:Op} {ty:Td} {pos:String} {after:Array Edge} {guard:Option (Nat×Bool)} {lv:List Bool} {pd:LNB}
theorem agW {v:Value} (hg:Gives P (evF σ) op ty w v w') (h:FL P r n ops Q rest σ w'):
    FL P r n ops Q (⟨none,op,ty,pos,after,none⟩::rest) σ w:=λa ha=>
  wpListIn_plain rfl λK hK=>by
    refine⟨λ_ _=>trivial,?_⟩;rw[ha.eval,EH (hg _ _ _ _)];exact hK _ _ (h _ ha)
theorem Fu {d:Nat} {x:Od} {T k e:Td} [hm:IsMap P T k e] {b:Nat} {D:List Ent} (H:Sep w0 S rs w) (hat:At rs (gD b D) put) (hx:evF σ x=.map (some b):=by exact rfl) (hd:Nat.blt d n=true:=by exact rfl)
    (h: ∀q w',Sep w0 S (put (sZ q b D D)) w'->FL P r n ops Q rest (upd σ d (.pointer (some ⟨q,0,none⟩))) w'):
    FL P r n ops Q (⟨some d,.range T x,ty,pos,after,none⟩::rest) σ w:=by
  obtain⟨q,w',hg,hs,_⟩:=QG (P:=P) (ty:=ty) (T:=T) (k:=k) (e:=e) H hat hx;exact dG hg hd (h q w' hs)
theorem KW {d:Nat} {x:Od} {q b:Nat} {D L:List Ent} (H:Sep w0 S rs w) (hat:At rs (sZ q b D L) put)
    (h1: ∀p L' w',L.Perm (p::L')->Sep w0 S (put (QE q b D L' p)) w'->FL P r n ops Q rest (upd σ d (.tuple #[.bool true,str p.1,p.2])) w')
    (h2:L=[]->FL P r n ops Q rest (upd σ d (.tuple #[.bool false])) w) (hx:evF σ x=.pointer (some ⟨q,0,none⟩):=by exact rfl) (hd:Nat.blt d n=true:=by exact rfl):
    FL P r n ops Q (⟨some d,.next x false,ty,pos,after,none⟩::rest) σ w:=by
  rcases Js (P:=P) (ty:=ty) H hat hx with⟨h0,hg⟩ | ⟨p,L',w',hp,hg,hs⟩
  . exact dG hg hd (h2 h0)
  exact dG hg hd (h1 p L' w' hp hs)
theorem Xl {x y:Od} {T U k e:Td} [hm:IsMap P T k e] [hk:j3 P k] {b:Nat} {D:List Ent} {i:L8} (H:Sep w0 S rs w) (hat:At rs (gD b D) put) (hx:evF σ x=.map (some b):=by exact rfl) (hy:evF σ y=str i:=by exact rfl)
    (h: ∀w',Sep w0 S (put (gD b (Ug D i))) w'->FL P r n ops Q rest σ w'):
    FL P r n ops Q (⟨none,.call {callee:=.builtin .delete,args:= #[x,y],argTypes:= #[T,U]},ty,pos,after,none⟩::rest) σ w:=by
  obtain⟨w',hg,hs⟩:=MU (P:=P) (ty:=ty) (T:=T) (U:=U) (k:=k) (e:=e) H hat hx hy;exact agW hg (h w' hs)
theorem QM (eH:dJ n ops=true) (e:Nat) (pd':LNB) {x y z:Od} {T k el:Td} [IsMap P T k el] [j3 P k] {b:Nat} {D:List Ent} {i:L8} {v:Value} (H:Sep w0 S rs w) (hat:At rs (gD b D) put)
    (ho:ops[e]? =some ⟨none,.mapUpdate T x y z,ty,pos,after,guard⟩:=by exact rfl)
    (hw:Region.wanted ⟨none,.mapUpdate T x y z,ty,pos,after,guard⟩ (bX ops σ)=true:=by kernel_rfl) (hx:evF σ x=.map (some b):=by exact rfl) (hy:evF σ y=str i:=by exact rfl) (hz:evF σ z=v:=by exact rfl)
    (d9:eX ops lv (pd.map (·.1)) e=true:=by kernel_rfl) (oo:pd.filter (λp=> !((above ops e).contains p.1))=pd':=by exact pD)
    (h: ∀w',Sep w0 S (put (gD b (yT D i v))) w'->jk P ops σ w' pd'/\FG P r n ops Q (lv.set e true) pd' σ w'):FG P r n ops Q lv pd σ w:=
  Ul eH e pd' ho hw (yM (P:=P) (T:=T) (k:=k) (e:=el) H hat hx hy hz) d9 oo h
end
end Go.Mw
namespace Go.Proofs.YtkfpleidaoaonaaGreatDoor
open Go Go.Mw Go.Lib Go.Proofs.Tryz
set_option maxRecDepth 4000
section
variable {w0 w:Wd} {S:NP} {rs:List HP} {L M:List Held} {u v:Value}
theorem Uo (H:Mw.Sep w0 S (GH L::GH M::rs) w):Mw.Sep w0 S (GH (L++M)::rs) w:=by
 refine Sep.imp H.bD At0 λF hF=>?_;show(iT ((L++M).map _)).ok F w
 rw[zau];exact xK.1 hF
theorem MV {ρ:Od->Value} {ty:Td} {x y:Od} (H:Mw.Sep w0 S (eU u M::eU v L::rs) w) (hx:ρ x=v) (hy:ρ y=u) (hn:L.length+M.length<=1000000):
    ∃v' w',Gives prog ρ (.call {callee:=.builtin .append,args:= #[x,y],argTypes:= #[27,27]}) ty w v' w'/\Mw.Sep w0 S (eU v' (L++M)::rs) w':=by
  have k:=H.bR;have qY: ∀z∈(eu M).flatMap aG,z.oneCell'=true:=Qr (TP k At1);obtain⟨U,cu,rfl,_,hU⟩:=Sep.dQ k At0;have I:=k.aU.bR;have e1:(eu L).length=L.length:=zaf _;have e2:(eu M).length=M.length:=zaf _;obtain⟨v',w',hg,hs⟩:=Eb (P:=prog) (ρ:=ρ) (ty:=ty) (x:=x) (y:=y) (t:=27) (e:=82) I hx hy At0 hU qY dC rfl (by rw[e1,e2];unfold maxLen;omega) (by rw[e1,e2];omega);refine⟨v',w',hg,?_⟩;have h3:=Uo (hs.aU.dA.aL.aU.aL);have h4:=h3.aL;unfold eU bJ;have e3:eu (L++M)=eu L++eu M:=zau;rw[e3,zad,zby];exact h4.bD
end
section
variable {r:Option Nat} {n:Nat} {ops:AO} {Q:Post} {rest:LO} {σ:St} {w w0:Wd} {S:NP} {rs:List HP} {ty:Td} {pos:String} {after:Array Edge} {guard:Option (Nat×Bool)} {lv:List Bool} {pd:LNB} {L M:List Held} {u v:Value}
theorem A8 (eH:dJ n ops=true) (i:Nat) (pd':LNB) {d:Nat} {x y:Od} (H:Mw.Sep w0 S (eU u M::eU v L::rs) w) (hn:L.length+M.length<=1000000)
    (ho:ops[i]? =some ⟨some d,.call {callee:=.builtin .append,args:= #[x,y],argTypes:= #[27,27]},ty,pos,after,guard⟩:=by exact rfl)
    (hw:Region.wanted ⟨some d,.call {callee:=.builtin .append,args:= #[x,y],argTypes:= #[27,27]},ty,pos,after,guard⟩ (bX ops σ)=true:=by kernel_rfl)
    (hx:evF σ x=v:=by exact rfl) (hy:evF σ y=u:=by exact rfl)
    (d9:eX ops lv (pd.map (·.1)) i=true:=by kernel_rfl) (oo:pd.filter (λp=> !((above ops i).contains p.1))=pd':=by exact pD)
    (h: ∀v' w',Mw.Sep w0 S (eU v' (L++M)::rs) w'->jk prog ops (upd σ d v') w' pd'/\FG prog r n ops Q (lv.set i true) pd' (upd σ d v') w'):FG prog r n ops Q lv pd σ w:=
  vW eH i pd' ho hw (MV (ty:=ty) H hx hy hn) d9 oo h
end
def Ec (w:Wd) (C:List tq):Prop:=∀c∈C,gU w c.b [c.kv,c.sv] 438/\aQ w c.kv ah 3 c.key/\aQ w c.sv bT 3 c.ns
theorem Uq: ∀{C:List tq} {F:NP} {w:Wd},(iT (C.map KS)).ok F w->Ec w C
 | [],_,_,_=>λc hc=>zap hc zao
 | c::C,F,w,⟨F1,F2,_,_,⟨G1,G2,_,_,hb,G3,G4,_,_,h1,h2⟩,h3⟩=>λd hd=>by
  rcases zan.1 hd with rfl | hd
  .exact⟨hb.2,nL h1,nL h2⟩
  exact Uq h3 d hd
structure lK (f:List ay->Option (List Int)) (L:List fE):Prop where
 nd:(L.map (·.2.2.1)).Nodup
 is: ∀s∈L,f s.2.2.1=some s.2.2.2
 all: ∀k,f k≠none->k∈L.map (·.2.2.1)
 fit: ∀s∈L,fO s.2.2.1/\s.2.2.1.length<=16
def QN (f:List ay->Option (List Int)) (k:List ay) (o:Option (List Int)):List ay->Option (List Int):=λx=>if x=k then o else f x
def uK (L:List fE) (s:fE):List fE:=if s.2.2.1∈L.map (·.2.2.1)then L.map (λt=>if t.2.2.1=s.2.2.1 then s else t)else L++[s]
def Ol (L:List fE) (k:List ay):List fE:=L.filter λt=> !decide (t.2.2.1=k)
theorem Om {a b:List ay} (ha:fO a) (hb:fO b):(dV a==dV b)=decide (a=b):=by
 rw[zdx,beq_iff_eq,decide_eq_true_iff];exact⟨AU ha hb,λe=>by rw[e]⟩
theorem Ed {k:List ay} (hk:fO k): ∀{L:List fE},(∀s∈L,fO s.2.2.1)->lu (L.map gJ) (dV k)=(L.find? λs=>decide (s.2.2.1=k)).map λs=>agg [s.1,s.2.1]
 | [],_=>rfl
 | s::L,h=>by
  have ih:=Ed hk (L:=L) λt ht=>h t (zag _ ht);have h1:=Om (h s zae) hk;unfold lu at ih ⊢;rw[zay,zcf,zcf,show((gJ s).1==dV k)=decide (s.2.2.1=k)from h1];cases hb:decide (s.2.2.1=k)with
  | true=>rfl
  | false=>exact ih
section
variable {f:List ay->Option (List Int)} {L:List fE} {k:List ay} {ns:List Int} {s:fE}
theorem lK.fits (h:lK f L): ∀s∈L,fO s.2.2.1:=λs hs=>(h.fit s hs).1
theorem lK.get (h:lK f L) (hk:fO k) (hf:f k=some ns): ∃s∈L,s.2.2.1=k/\s.2.2.2=ns/\lu (L.map gJ) (dV k)=some (agg [s.1,s.2.1]):=by
 have hm:=h.all k (by rw[hf];exact λh=>nomatch h);rw[Ed hk h.fits];cases hx:L.find? λs=>decide (s.2.2.1=k)with
 | none=>
  obtain⟨s,hs,e⟩:=zat.1 hm;exact zap (zbj e) (zen.1 hx s hs)
 | some s=>
  have hs:=zdv hx;have e0:=List.find?_some hx;have e:s.2.2.1=k:=zba e0;refine⟨s,hs,e,?_,rfl⟩;have:=h.is s hs;rw[e,hf]at this;injection this with this
  exact this.symm
theorem lK.am6 (h:lK f L) (hk:fO k) (hf:f k=none):lu (L.map gJ) (dV k)=none:=by
 rw[Ed hk h.fits,zfe,zen];intro s hs he;have:=h.is s hs;rw[zba he,hf]at this;cases this
theorem KX:(uK L s).map (·.2.2.1)=if s.2.2.1∈L.map (·.2.2.1)then L.map (·.2.2.1)else L.map (·.2.2.1)++[s.2.2.1]:=by
 unfold uK
 split
 .rw[zdt]
  refine zcw λt _=>?_;show(if t.2.2.1=s.2.2.1 then s else t).2.2.1=t.2.2.1
  split
  .rename_i e;exact e.symm
  rfl
 rw[zau];rfl
theorem Fv {t:fE} (ht:t∈uK L s):t=s\/(t∈L/\t.2.2.1≠s.2.2.1):=by
 unfold uK at ht
 split at ht
 .obtain⟨u,hu,rfl⟩:=zat.1 ht
  split
  .exact .inl rfl
  rename_i e;exact .inr ⟨hu,e⟩
 rename_i hm
 rcases zbi.1 ht with h | h
 .exact .inr ⟨h,λe=>hm (zat.2 ⟨t,h,e⟩)⟩
 exact .inl (zar.1 h)
theorem lK.put (h:lK f L) (hs:fO s.2.2.1/\s.2.2.1.length<=16):lK (QN f s.2.2.1 (some s.2.2.2)) (uK L s):=by
 refine⟨?_,λt ht=>?_,λk hk=>?_,λt ht=>?_⟩
 .rw[KX]
  split
  .exact h.nd
  rename_i hm;rw[zei];exact⟨h.nd,sM,λa ha b hb e=>by rw[zar]at hb;subst hb;subst e;exact hm ha⟩
 .unfold QN
  rcases Fv ht with rfl | ⟨h1,h2⟩
  .rw[zac rfl]
  rw[zab h2];exact h.is t h1
 .rw[KX]
  unfold QN at hk
  by_cases e:k=s.2.2.1
  .subst e
   split
   .assumption
   exact zce _ (zar.2 rfl)
  rw[zab e]at hk;have:=h.all k hk
  split
  .exact this
  exact zcd _ this
 rcases Fv ht with rfl | ⟨h1,_⟩
 .exact hs
 exact h.fit t h1
theorem lK.del (h:lK f L):lK (QN f k none) (Ol L k):=by
 unfold Ol;refine⟨h.nd.sublist (List.filter_sublist.map _),λt ht=>?_,λx hx=>?_,λt ht=>h.fit t (zbw.1 ht).1⟩
 .obtain⟨h1,h2⟩:=zbw.1 ht
  have h3: ¬t.2.2.1=k:=by simpa using h2
  unfold QN;rw[zab h3];exact h.is t h1
 unfold QN at hx
 by_cases e:x=k
 .rw[zac e]at hx;exact zap rfl hx
 rw[zab e]at hx;obtain⟨t,ht,rfl⟩:=zat.1 (h.all x hx);exact zat.2 ⟨t,zbw.2 ⟨ht,by simpa using e⟩,rfl⟩
theorem lK.congr {g:List ay->Option (List Int)} (h:lK f L) (e: ∀k,g k=f k):lK g L:=by
 have :g=f:=funext e;rw[this];exact h
theorem Oo (hF: ∀s∈L,fO s.2.2.1) (hs:fO s.2.2.1):yT (L.map gJ) (dV s.2.2.1) (agg [s.1,s.2.1])=(uK L s).map gJ:=by
 unfold yT uK
 have hn:(lu (L.map gJ) (dV s.2.2.1)).isSome=true↔s.2.2.1∈L.map (·.2.2.1):=by
  rw[Ed hs hF,Option.isSome_map,List.find?_isSome];constructor
  .rintro⟨t,ht,e⟩;exact zat.2 ⟨t,ht,zba e⟩
  intro hm;obtain⟨t,ht,e⟩:=zat.1 hm;exact⟨t,ht,zbj e⟩
 by_cases hm:s.2.2.1∈L.map (·.2.2.1)
 .rw[zac (hn.2 hm),zac hm,zdt,zdt]
  refine zcw λt ht=>?_;show(if(gJ t).1=dV s.2.2.1 then(dV s.2.2.1,agg [s.1,s.2.1])else gJ t)=gJ (if t.2.2.1=s.2.2.1 then s else t)
  by_cases e:t.2.2.1=s.2.2.1
  .rw[zac e,zac (show(gJ t).1=_ by unfold gJ;rw[e])];rfl
  rw[zab e,zab (show ¬(gJ t).1=dV s.2.2.1 from λe2=>e (AU (hF t ht) hs e2))]
 rw[zab (λe=>hm (hn.1 e)),zab hm,zau];rfl
theorem aaY (hF: ∀s∈L,fO s.2.2.1) (hs:fO s.2.2.1) (hn:s.2.2.1∉L.map (·.2.2.1)):yT (L.map gJ) (dV s.2.2.1) (agg [s.1,s.2.1])=(L++[s]).map gJ:=by
 rw[Oo hF hs];unfold uK;rw[zab hn]
theorem aaZ (hF: ∀s∈L,fO s.2.2.1) (hk:fO k):Ug (L.map gJ) (dV k)=(Ol L k).map gJ:=by
 unfold Ug Ol;rw[List.filter_map]
 congr 1
 refine List.filter_congr λt ht=>?_;show(!((gJ t).1==dV k))=_
 rw[show((gJ t).1==dV k)=decide (t.2.2.1=k)from Om (hF t ht) hk]
end
def Ee (bh sums:Nat) (E:List bQ):HP:=exH λL:List fE=>star (gD bh (L.map gJ)) (star (gy λw=>fQ w L) (jo (lK (stE sums E) L)))
theorem vX {w0 w:Wd} {S:NP} {rs:List HP} {bh sums:Nat} {E:List bQ} {L:List fE} (H:Mw.Sep w0 S (gy (λw=>fQ w L)::gD bh (L.map gJ)::rs) w) (hL:lK (stE sums E) L):Mw.Sep w0 S (Ee bh sums E::rs) w:=
 Sep.uq (p:=λL:List fE=>star (gD bh (L.map gJ)) (star (gy λw=>fQ w L) (jo (lK (stE sums E) L)))) L ((Sep.jS hL H).aL.bD.aL.bD)
theorem Oq {w0 w:Wd} {S:NP} {rs:List HP} {bh sums:Nat} {E:List bQ} (H:Mw.Sep w0 S (Ee bh sums E::rs) w): ∃L,lK (stE sums E) L/\Mw.Sep w0 S (gy (λw=>fQ w L)::gD bh (L.map gJ)::rs) w:=by
 obtain⟨L,G2⟩:=Sep.ex0 H;obtain⟨hS,G3⟩:=Sep.rO (G2.bR.aL.bR.aL);exact⟨L,hS,G3⟩
theorem aa0 (sums:Nat):lK (stE sums []) []:=⟨List.nodup_nil,λs hs=>zap hs zao,λk hk=>zap (by unfold stE;rw[zab];simp[eD,nW]) hk,λs hs=>zap hs zao⟩
theorem fQ.sub {w:Wd} {L M:List fE} (h:fQ w M) (hs: ∀s∈L,s∈M):fQ w L:=λs hm=>h s (hs s hm)
theorem fQ.app {w:Wd} {L M:List fE} (h:fQ w L) (h2:fQ w M):fQ w (L++M):=λs hm=>(zbi.1 hm).elim (h s) (h2 s)
theorem fQ.push {w:Wd} {L:List fE} {s:fE} (h:fQ w L) (h1:aQ w s.1 ah 3 s.2.2.1) (h2:aQ w s.2.1 yS 1 s.2.2.2) (h3:fO s.2.2.1):fQ w (L++[s]):=h.app λt ht=>by
 rw[zar]at ht;subst ht;exact⟨⟨h1,h2⟩,h3⟩
def KY (sums:Nat) (E l:List bQ) (done:List (List ay)):List ay->Option (List Int):=λk=>if k∈done then stE sums (E++l) k else stE sums E k
theorem aec {sums:Nat} {E l:List bQ} (k:List ay):KY sums E l [] k=stE sums E k:=zab zao
theorem aed {sums:Nat} {E l:List bQ} {done:List (List ay)} (hd: ∀k∈jq l,k∈done) (k:List ay):stE sums (E++l) k=KY sums E l done k:=by
 unfold KY
 split
 .rfl
 rename_i h;exact aaq λhk=>h (hd k hk)
theorem Ot {sums:Nat} {E l:List bQ} {done:List (List ay)} {k:List ay} {o:Option (List Int)} (ho:o=stE sums (E++l) k) (x:List ay):KY sums E l (k::done) x=QN (KY sums E l done) k o x:=by
 unfold KY QN;show(if x∈k::done then stE sums (E++l) x else stE sums E x)=if x=k then o else if x∈done then stE sums (E++l) x else stE sums E x
 by_cases e:x=k
 .subst e;rw[zac zae,zac rfl,ho]
 rw[zab e]
 by_cases hm:x∈done
 .rw[zac hm,zac (zag _ hm)]
 rw[zab hm,zab (λh=>(zan.1 h).elim e hm)]
theorem aa1 {x:bQ} (hw:fits x.w) (hv: ∀c∈x.vals,fits c.n) (i:Nat): -85070591730234615865843651857942052864<=Jr x i/\Jr x i<=85070591730234615865843651857942052864:=by
 unfold Jr
 split
 .unfold fits at hw;omega
 split
 .omega
 refine Nz hw ?_;rw[zak];cases hc:x.vals[i-1]? with
 | none=>exact⟨dC,dC⟩
 | some c=>exact hv c (zam hc)
theorem aa2 {l:List bQ} (h: ∀x∈l,fits x.w/\∀c∈x.vals,fits c.n) (k:List ay) (i:Nat): -(85070591730234615865843651857942052864*(l.length:Int))<=nW l k i/\nW l k i<=85070591730234615865843651857942052864*(l.length:Int):=by
 induction l with
 | nil=>exact⟨by simp[nW],by simp[nW]⟩
 | cons x l ih=>
  have h1:=ih λy hy=>h y (zag _ hy);have h2:=aa1 (h x zae).1 (h x zae).2 i;rw[nW,zal]
  split<;>omega
theorem Xm {sums:Nat} {E l:List bQ} (hE:yR sums E=true) (h: ∀x∈l,fits x.w/\∀c∈x.vals,fits c.n) (hn:l.length<=1000) {k:List ay} {n:Int} (hm:n∈eD sums (E++l) k): -3138550867693340381917894711603833208051177722232017256448<=n/\n<3138550867693340381917894711603833208051177722232017256448:=by
 unfold eD at hm;obtain⟨i,hi,rfl⟩:=zat.1 hm;rw[zdp]at hi;have h1:=zba (zq.1 hE k i oM);have h2:=aa2 h k i;rw[sQ];omega
structure KZ (sums:Nat) (E l:List bQ) (C:List tq) (Ln:List fE) (Lf:List Ent) (LI:List Held):Prop where
 rest: ∃Cl:List tq,(∀c∈Cl,c∈C)/\Lf.Perm (Cl.map QH)/\(C.map (·.key)).Perm (Ln.map (·.2.2.1)++Cl.map (·.key))
 nums: ∀s∈Ln,s.2.2.2=eD sums (E++l) s.2.2.1/\(∀n∈s.2.2.2,eO n=true)/\fO s.2.2.1/\s.2.2.1.length<=16
 its:LI.map (·.2)=(Ln.map (·.2.2.1)).flatMap λk=>iO (eD sums E k) k (-1)++iO (eD sums (E++l) k) k 1
theorem Fw {α β:Type} {f:α->β} {L:List α} {p:β} {L':List β} (h:(p::L').Perm (L.map f)): ∃c Lr,L.Perm (c::Lr)/\p=f c/\L'.Perm (Lr.map f):=by
 obtain⟨c,hc,e⟩:=zat.1 (h.mem_iff.1 zae);obtain⟨s,t,fU⟩:=List.append_of_mem hc;have hp:L.Perm (c::(s++t)):=by rw[fU];exact List.perm_middle
 refine⟨c,s++t,hp,e.symm,?_⟩;have h2:=h.trans (hp.map f);rw[zay,e]at h2;exact(List.perm_cons p).1 h2
theorem KZ.step {sums:Nat} {E l:List bQ} {C:List tq} {K:List (List ay)} {D0:List Ent} {Ln:List fE} {Lf Lf':List Ent} {LI:List Held} {p:Ent} (h:KZ sums E l C Ln Lf LI) (hC:aaS sums (E++l) K C D0) (hK:K.Nodup) (hkl: ∀k∈K,k.length<=16) (hp:Lf.Perm (p::Lf')):
    ∃c:tq,c∈C/\p=QH c/\(c.key∉Ln.map (·.2.2.1))/\c.ns=eD sums (E++l) c.key/\(fO c.key/\c.key.length<=16)/\∀(kv nv:Value) (LI':List Held),LI'.map (·.2)=iO (eD sums E c.key) c.key (-1)++iO (eD sums (E++l) c.key) c.key 1->(∀n∈c.ns,eO n=true)->KZ sums E l C (Ln++[(kv,nv,c.key,c.ns)]) Lf' (LI++LI'):=by
  obtain⟨Cl,h1,h2,h3⟩:=h.rest;obtain⟨c,Cr,hq,rfl,hL⟩:=Fw (hp.symm.trans h2);have ZL:c∈C:=h1 c (hq.mem_iff.2 zae);have hnd:(C.map (·.key)).Nodup:=hC.keys.symm.nodup hK;have h4:(C.map (·.key)).Perm (Ln.map (·.2.2.1)++c.key::Cr.map (·.key)):=h3.trans (List.Perm.append_left _ (hq.map _));have h5:(Ln.map (·.2.2.1)++c.key::Cr.map (·.key)).Nodup:=h4.nodup hnd;have hkc:c.key.length<=16:=hkl _ (hC.keys.mem_iff.1 (zdu ZL));refine⟨c,ZL,rfl,λhm=>?_,hC.nums c ZL,⟨hC.fit c ZL,hkc⟩,λkv nv LI' hI hf=>⟨⟨Cr,λd hd=>h1 d (hq.mem_iff.2 (zag _ hd)),hL,?_⟩,λs hs=>?_,?_⟩⟩
  . exact(zei.1 h5).2.2 _ hm _ zae rfl
  . rw[zau,zbp];exact h4
  . rcases zbi.1 hs with hs | hs
    . exact h.nums s hs
    rw[zar]at hs;subst hs;exact⟨hC.nums c ZL,hf,hC.fit c ZL,hkc⟩
  rw[zau,zau,zby,h.its,hI];simp
theorem KZ.start {sums:Nat} {E l:List bQ} {C:List tq} {K:List (List ay)} {D:List Ent} (hC:aaS sums (E++l) K C D):KZ sums E l C [] D []:=
 ⟨⟨C,λ_ h=>h,hC.data,List.Perm.refl _⟩,λs hs=>zap hs zao,rfl⟩
theorem KZ.keys {sums:Nat} {E l:List bQ} {C:List tq} {K:List (List ay)} {D:List Ent} {Ln:List fE} {LI:List Held} (h:KZ sums E l C Ln [] LI) (hC:aaS sums (E++l) K C D):(Ln.map (·.2.2.1)).Perm K:=by
 obtain⟨Cl,_,h2,h3⟩:=h.rest
 have :Cl=[]:=by
  have:=h2.length_eq;rw[zaf]at this;exact zbe this.symm
 subst this;rw[zcm,zci]at h3;exact h3.symm.trans hC.keys
theorem KZ.fine {keys sums:Nat} {E l:List bQ} {C:List tq} {D:List Ent} {Ln:List fE} {LI:List Held} (h:KZ sums E l C Ln [] LI) (hC:aaS sums (E++l) (jq l) C D) (hm:(l.all λx=>vN keys sums x)=true) (hE:yR sums E=true):yR sums (E++l)=true/\vQ keys sums E l=cZ (LI.map (·.2)):=by
 have hp:=h.keys hC
 have hf:yR sums (E++l)=true:=(aat hE).2 λk hk n hn=>by
  obtain⟨s,hs,e⟩:=zat.1 (hp.mem_iff.2 hk);obtain⟨h1,h2,_⟩:=h.nums s hs;rw[<-e]at hn;exact h2 n (by rw[h1];exact hn)
 refine⟨hf,?_⟩;unfold vQ;rw[zab (by rw[hm];decide),zab (by rw[hf];decide),h.its,WM hp]
theorem aa3 {keys sums:Nat} {E l:List bQ} {k:List ay} {n:Int} (hm:(l.all λx=>vN keys sums x)=true) (hn:n∈eD sums (E++l) k) (hf:eO n≠true):vQ keys sums E l=([],50):=by
 have :yR sums (E++l)=false:=by
  cases h:yR sums (E++l)with
  | false=>rfl
  | true=>
   unfold eD at hn;obtain⟨i,hi,rfl⟩:=zat.1 hn;exact zap (zq.1 h k i (by have:=zdp.1 hi;omega)) hf
 unfold vQ;rw[zab (by rw[hm];decide),zac this]
structure MW (sums:Nat) (E l:List bQ) (L0 Ln L:List fE) (Lf:List Ent) (done:List (List ay)):Prop where
 held:lK (KY sums E l done) L
 from_: ∀s∈L,s∈Ln\/s∈L0
 rest: ∃Lr:List fE,(∀s∈Lr,s∈Ln)/\Lf.Perm (Lr.map gJ)/\∀s∈Ln,s∈Lr\/s.2.2.1∈done
theorem MW.start {sums:Nat} {E l:List bQ} {L0 Ln:List fE} (h:lK (stE sums E) L0):MW sums E l L0 Ln L0 (Ln.map gJ) []:=
 ⟨h.congr λk=>aec k,λs hs=>.inr hs,⟨Ln,λ_ h=>h,List.Perm.refl _,λs hs=>.inl hs⟩⟩
theorem MW.step {sums:Nat} {E l:List bQ} {L0 Ln L:List fE} {Lf Lf':List Ent} {done:List (List ay)} {p:Ent} (h:MW sums E l L0 Ln L Lf done) (hn: ∀s∈Ln,s.2.2.2=eD sums (E++l) s.2.2.1/\fO s.2.2.1/\s.2.2.1.length<=16) (hp:Lf.Perm (p::Lf')):
    ∃s:fE,s∈Ln/\p=gJ s/\((s.2.2.2.any λn=>decide (n≠0))=true->MW sums E l L0 Ln (uK L s) Lf' (s.2.2.1::done))/\((s.2.2.2.any λn=>decide (n≠0))=false->MW sums E l L0 Ln (Ol (uK L s) s.2.2.1) Lf' (s.2.2.1::done)):=by
  obtain⟨Lr,h1,h2,h3⟩:=h.rest;obtain⟨s,Lq,hq,rfl,hL⟩:=Fw (hp.symm.trans h2);have hs:s∈Ln:=h1 s (hq.mem_iff.2 zae);obtain⟨e1,e2,e3⟩:=hn s hs;have jO:=h.held.put ⟨e2,e3⟩
  have aiF: ∀t∈uK L s,t∈Ln\/t∈L0:=λt ht=>by
    rcases Fv ht with rfl | ⟨ht,_⟩
    . exact .inl hs
    exact h.from_ t ht
  have Ez: ∃Lr:List fE,(∀s∈Lr,s∈Ln)/\Lf'.Perm (Lr.map gJ)/\∀t∈Ln,t∈Lr\/t.2.2.1∈s.2.2.1::done:=⟨Lq,λt ht=>h1 t (hq.mem_iff.2 (zag _ ht)),hL,λt ht=>by
    rcases h3 t ht with h4 | h4
    . rcases zan.1 (hq.mem_iff.1 h4)with rfl | h5
      . exact .inr zae
      exact .inl h5
    exact .inr (zag _ h4)⟩
  refine⟨s,hs,rfl,λha=>⟨jO.congr λx=>Ot ?_ x,aiF,Ez⟩,λha=>⟨?_,λt ht=>aiF t (zbw.1 ht).1,Ez⟩⟩
  . unfold stE
    rw[<-e1,zac ha]
  refine(jO.del (k:=s.2.2.1)).congr λx=>?_;rw[Ot (o:=none) (by unfold stE;rw[<-e1,zab (by rw[ha];decide)])];unfold QN
  split<;>rfl
theorem MW.end_ {sums:Nat} {E l:List bQ} {L0 Ln L:List fE} {done:List (List ay)} (h:MW sums E l L0 Ln L [] done) (hk: ∀k∈jq l,k∈Ln.map (·.2.2.1)):lK (stE sums (E++l)) L:=by
 obtain⟨Lr,_,h2,h3⟩:=h.rest
 have :Lr=[]:=by
  have:=h2.length_eq;rw[zaf]at this;exact zbe this.symm
 subst this;refine h.held.congr λk=>aed (λk hk'=>?_) k;obtain⟨s,hs,e⟩:=zat.1 (hk k hk')
 rcases h3 s hs with h4 | h4
 .exact zap h4 zao
 rw[<-e];exact h4
attribute [local irreducible] FW FL FG FGn fZ gG cO gW Qfn Gives
structure am7 where
 xv:Value
 LI:List Held
 Ln:List fE
 Lf:List Ent
structure am8 where
 L:List fE
 Lf:List Ent
 done:List (List ay)
theorem Ou (l:List bQ):(jq l).length<=l.length:=by
 refine Ky (p:=λl=>(jq l).length<=l.length) (zaq _) (λl x ih=>?_) l;rw[sV,zad]
 split
 .omega
 rw[zad];simp only[zah];omega
theorem Ov (ks:List (List ay)) (f g:List ay->List Int):(ks.flatMap λk=>iO (f k) k (-1)++iO (g k) k 1).length<=2*ks.length:=by
 induction ks with
 | nil=>exact zaq _
 | cons k ks ih=>
  have h1:=su (f k) k (-1);have h2:=su (g k) k 1;rw[zbc,zad,zad,zal];omega
theorem vY {ns:List Int} {k:List ay} {wt:Int} {o:aH} (h:o∈iO ns k wt):o.row=k++ns.map uh/\o.w=wt:=by
 unfold iO at h
 split at h
 .exact zap h zao
 rw[zar]at h;subst h;exact⟨rfl,rfl⟩
theorem aa4 {ks:List (List ay)} {f g:List ay->List Int} {o:aH} (h:o∈ks.flatMap λk=>iO (f k) k (-1)++iO (g k) k 1): ∃k∈ks,(o.row=k++(f k).map uh\/o.row=k++(g k).map uh)/\(o.w= -1\/o.w=1):=by
 obtain⟨k,hk,h⟩:=zcz.1 h
 rcases zbi.1 h with h | h
 .exact⟨k,hk,.inl (vY h).1,.inl (vY h).2⟩
 exact⟨k,hk,.inr (vY h).1,.inr (vY h).2⟩
section
variable {w:Wd} {F:NP}
theorem aa5 (n:Int):Rk prog 402 [I n] w (.bool (decide (n≠0))):=by
 have H:=Sep.aJ w;refine dI func402 rfl rfl rfl rfl ?_;refine Zb4 ?_;exact⟨rfl,H.kept⟩
theorem Ow {sums:Nat} {E:List bQ} {L0:List fE} {k:List ay} (h:lK (stE sums E) L0) (hk:fO k) (hE:yR sums E=true):
    ∃(hv nv:Value) (k0:List ay) (ns0:List Int),(lu (L0.map gJ) (dV k)).getD (agg [.slice none 0 0,.slice none 0 0])=agg [hv,nv]/\(∀w1,fQ w1 L0->aQ w1 hv ah 3 k0/\aQ w1 nv yS 1 ns0)/\k0.length<=16/\ns0.length<=sums+1/\(∀n∈ns0,fits n)/\ns0++List.replicate (sums+1-ns0.length) 0=eD sums E k/\∀wt,iO ns0 k0 wt=iO (eD sums E k) k wt:=by
  have hns: ∀n∈eD sums E k,fits n:=λn hn=>by
    unfold eD at hn;obtain⟨i,hi,rfl⟩:=zat.1 hn;have:=zba (zq.1 hE k i (by have:=zdp.1 hi;omega));unfold fits;omega
  cases hs:stE sums E k with
  | none=>
    rw[h.am6 hk hs];refine⟨_,_,[],[],rfl,λw1 _=>⟨AA _ _ _,AA _ _ _⟩,zaq _,zaq _,λn hn=>zap hn zao,?_,λwt=>?_⟩
    . refine zeh λi=>?_
      rw[zcb,zcu,zfg,List.getElem?_replicate]
      by_cases hi:i<sums+1
      . rw[zac hi,vP oM,xV hs oM]
      rw[zab hi,zcn (by rw[mg];omega)]
    unfold iO;rw[CW,xV hs (zaq _),zac rfl];rfl
  | some ns=>
    obtain⟨s,hm,e1,e2,e3⟩:=h.get hk hs;have e4:=KA hs;rw[e3];refine⟨s.1,s.2.1,k,ns,rfl,λw1 hw=>?_,?_,?_,?_,?_,λwt=>by rw[e4]⟩
    . have:=(hw s hm).1
      rw[e1,e2]at this;exact this
    . have:=(h.fit s hm).2
      rw[e1]at this;exact this
    . rw[e4,mg];exact zbk _
    . rw[e4];exact hns
    rw[e4,mg,zet];simp
set_option maxHeartbeats 1000000 in
theorem Ur {bg bh keys sums:Nat} {v:Value} {Z:List D5} {E:List bQ} (hp:(star (blk bg (qd keys sums bh) 150) (Ee bh sums E)).ok F w)
    (hv: ∀w1,Kept F w w1->aQ w1 v xY 3 Z) (hZ: ∀w1,Kept F w w1->GK w1 Z) (hT: ∀w1,Kept F w w1->gQ w1) (hkm:keys<=16) (ZF:sums<=16) (Zy: ∀z∈Z,fO z.2.2.key)
    (hf: ∀z∈Z,fits z.2.2.w/\∀c∈z.2.2.vals,fits c.n) (hn:Z.length<=100) (hE:yR sums E=true):
    aY prog 394 [av bg,v] w λu w'=>∃x:Value×List Held,u=.tuple #[x.1,I (vQ keys sums E (Z.map (·.2.2))).2]/\x.2.map (·.2)=(vQ keys sums E (Z.map (·.2.2))).1/\
      Turn F (star (eU x.1 x.2) (star (blk bg (qd keys sums bh) 150) (Ee bh sums (if(vQ keys sums E (Z.map (·.2.2))).2=0 then E++Z.map (·.2.2)else E)))) w w':=by
  have G1:=(Sep.bW hp).bR;obtain⟨L0,hS,H⟩:=Oq G1.aL;obtain⟨gl,Rt⟩: ∃gl,gl=Z.map (λz=>z.2.2):=⟨_,rfl⟩;rw[<-Rt]
  have JA: ∀x∈gl,fits x.w/\∀c∈x.vals,fits c.n:=λx hx=>by
    rw[Rt]at hx;obtain⟨z,hz,rfl⟩:=zat.1 hx;exact hf z hz
  have hgn:gl.length<=100:=by rw[Rt,zaf];exact hn
  obtain⟨A,m,rfl,⟨hm,qX⟩,_⟩:=hv w (Kept.refl _ _);refine dF func394 rfl rfl rfl rfl ?_;refine Sr (cB H (cs:=[av bg]) rfl (h:=λb2 _ S _=>?_));refine Zb3 ?_;refine aD S (KP (S.obj At3)) (h:=λ_ S _=>?_);refine Qn (Cd rfl (λa=>?_) (λa=>?_))
  . exact Bool.noConfusion a
  refine Zb2 ?_;refine aD S (aaP (Z:=Z) (S.obj At3) (S.obj At0) (hZ _ S.kept) (hv _ S.kept)) (h:=λ_ a _=>?_);refine Qn (Cd rfl (λS=>?_) (λS=>?_))
  . have rM:(gl.all λx=>vN keys sums x)=false:=by
      have hc:(Z.any λz=> !vN keys sums z.2.2)=true:=by simpa using S
      rw[Rt,List.all_map];rw[List.any_eq_not_all_not]at hc;simpa[Function.comp_def]using hc
    have Mx:vQ keys sums E gl=([],2):=by unfold vQ;rw[zac rM]
    refine Zb2 ?_;exact⟨(.slice none 0 0,[]),by rw[Mx];rfl,by rw[Mx];rfl,by
    rw[Mx,zab dC];exact(Sep.jM (dN (vX a.dA hS).aL.bD) 82 2).bD.bD.turn⟩
  have Ev:(gl.all λx=>vN keys sums x)=true:=by
    have hc:(Z.any λz=> !vN keys sums z.2.2)=false:=by simpa using S
    rw[Rt,List.all_map];rw[List.any_eq_not_all_not]at hc;simpa[Function.comp_def]using hc
  have hmz: ∀z∈Z,z.2.2.key.length=keys/\z.2.2.vals.length=sums:=λz hz=>by
    have:=zbf.1 Ev z.2.2 (by rw[Rt];exact zdu hz);unfold vN at this;rw[zbr,decide_eq_true_iff]at this;exact this.1
  have hkl: ∀k∈jq gl,k.length<=16:=λk hk=>by
    obtain⟨x,hx,e⟩:=(AJ gl).1 hk;rw[Rt]at hx;obtain⟨z,hz,rfl⟩:=zat.1 hx;have:=(hmz z hz).1;rw[<-e];omega
  refine Zb0 ?_;refine tu a (h:=λbn _ S _=>?_);have S:=Sep.QC S At0;refine Zb4 ?_;obtain⟨F0,vC,gH,hQ0,aI⟩:=Sep.KT (S.fC.bE.bD) At2;have EA: ∀w1,Kept F0 _ w1->Kept F w w1:=λw1 h1=>Mw.Kept.into S.kept gH h1;have CB: ∀w1,Kept F0 _ w1->fQ w1 L0:=λw1 h1=>by obtain⟨Fq,F1,F2,_,_,h2,_⟩:=hQ0 w1 h1;exact qE h2
  refine aK (Xh (bg:=bg) (keys:=keys) (sums:=sums) (bh:=bh) (E:=E) (λw1 h1=>by obtain⟨Fq,F1,F2,_,_,_,h2⟩:=hQ0 w1 h1;exact h2.2) (λw1 h1=>hv w1 (EA w1 h1)) (λw1 h1=>hZ w1 (EA w1 h1)) (λw1 h1=>hT w1 (EA w1 h1)) ZF (λz hz=>⟨by rw[(hmz z hz).1];exact hkm,Zy z hz⟩) (λz hz=>(hmz z hz).2) hf oM
    (λz hz=>by
      obtain⟨JB,nv0,S,ns0,e1,e2,_,e4,e5,e6,_⟩:=Ow hS (Zy z hz) hE;exact⟨JB,nv0,ns0,e1,λw1 h1=>(e2 w1 (CB w1 h1)).2,e4,e5,e6⟩) vC) rfl rfl (λv' _ Ms=>?_)
  obtain⟨bm,D,C,rfl,hC,lY,F1,lG,a⟩:=Ms;rw[<-Rt]at hC;have b:=aI _ F1 (iT (gD bm D::gD bh (L0.map gJ)::C.map KS)) lY lG a;have b:Mw.Sep w F (star (gD bm D) (star (gD bh (L0.map gJ)) (iT (C.map KS)))::star (gy λw=>fQ w L0) (blk bg (qd keys sums bh) 150)::gD bn []::blk b2 [av bg] 107::[]) _:=b.bE;have b:=Sep.look (X:=λw=>Ec w C) (b.bR.aL.bR.aL) At0 (λF w h=>Uq h);have b:=Sep.qg (Z:=λw=>fQ w ([]:List fE)/\Ec w C/\fQ w L0) (b.bE.bR.aU) (λw h1 h2=>⟨λs hs=>zap hs zao,h1,h2⟩);have b:Mw.Sep w F [blk b2 [av bg] 107,blk bg (qd keys sums bh) 150,gD bm D,gD bn [],gD bh (L0.map gJ),gy λw=>fQ w ([]:List fE)/\Ec w C/\fQ w L0] _:=b.aU.fC.fC.fC.jK;refine Fu b At2 (h:=?_);intro q b b;refine Zb0 ?_;have aoT:=Kz gl;refine aR (λx:am7=>[(2,av b2),(6,.map (some bn)),(7,x.xv),(28,av q)]) (λx w'=>KZ sums E gl C x.Ln x.Lf x.LI/\Mw.Sep w F [blk b2 [av bg] 107,blk bg (qd keys sums bh) 150,eU x.xv x.LI,sZ q bm D x.Lf,gD bn (x.Ln.map gJ),gD bh (L0.map gJ),gy λw=>fQ w x.Ln/\Ec w C/\fQ w L0] w') (λx _=>x.Lf.length) ⟨.slice none 0 0,[],[],D⟩ tR ⟨KZ.start hC,(Sep.jM (dN b) 82 2).bD.aU.aU⟩ (λx τ _ hI=>?_);obtain⟨xv,LI,Ln,Lf⟩:=x;obtain⟨hJ,b⟩:=hI;dsimp only at hJ b
  try simp only[cK,like,aS,bK]
  refine Sr (KW b At3 (h1:=λp Lf' _ ahU a=>?_) (h2:=λahU=>?_))
  . obtain⟨⟨bc,kv,sv,key,ns⟩,ZL,rfl,d9,Pt,yL,xH⟩:=hJ.step hC aoT hkl ahU
    have hLt:Lf'.length<Lf.length:=by have:=(ahU).length_eq;simp only[zal]at this;omega
    dsimp only at d9 Pt yL xH;have hcg:Ec _ C:=(Sep.sees a At6).2.1;have aoU:aQ _ kv ah 3 key:=(hcg _ ZL).2.1;have aoV:aQ _ sv bT 3 ns:=(hcg _ ZL).2.2;obtain⟨K,ck,rfl,_,_⟩:=aoU;obtain⟨V,cv,rfl,_,_⟩:=aoV;have hnl:ns.length=sums+1:=by rw[Pt,mg]
    obtain⟨JB,nv0,S,ns0,hz1,hz2,hz3,hz4,hz5,hz6,hz7⟩:=Ow hS yL.1 hE
    have aoW:LI.length<=200:=by
      have h1:=zbb List.length hJ.its;rw[zaf]at h1;have h2:=Ov (Ln.map (·.2.2.1)) (eD sums E) (eD sums (E++gl))
      have h3:(Ln.map (·.2.2.1)).length<=(jq gl).length:=by
        obtain⟨Cl,_,_,h4⟩:=hJ.rest;have h5:=h4.length_eq;have h6:=hC.keys.length_eq;rw[zad]at h5;omega
      have h7:=Ou gl;omega
    refine Zb1 ?_;refine Vv (Gives.Xc a At3 rfl) ?_;have d:=Sep.QF a At3;refine Zb7 ?_;refine fq ((Sep.sees d At6).2.1 _ ZL).1 (h:=?_);refine Vb [.slice K key.length ck,.slice none 0 0] ?_;refine aO d (h:=λb10 _ d _=>?_);refine ak d (h:=λ_ d=>?_);refine Zb3 ?_;refine fq ((Sep.sees d At7).2.1 _ ZL).1 (h:=?_);refine Zb2 ?_;refine aR (λx:(OA×Nat)×Nat=>[(2,av b2),(6,.map (some bn)),(7,xv),(8,str (dV key)),(10,av b10),(28,av q),(42,.slice V ns.length cv),(43,I ns.length),(44,I x.2)]) (λx w'=>(x.2<=ns.length/\∀n∈ns.take x.2,eO n=true)/\Mw.Sep w F [blk b10 [.slice K key.length ck,.slice x.1.1 (ns.take x.2).length x.1.2] 440,bJ 2 1 yS (.slice x.1.1 (ns.take x.2).length x.1.2) (ns.take x.2),blk b2 [av bg] 107,blk bg (qd keys sums bh) 150,eU xv LI,sZ q bm D Lf',gD bn (Ln.map gJ),gD bh (L0.map gJ),gy λw=>fQ w Ln/\Ec w C/\fQ w L0] w') (λx _=>ns.length-x.2) ((none,0),0) tR ⟨⟨zaq _,λn hn=>zap hn zao⟩,(Sep.nE d 2 1 yS).aL⟩ (λx τ _ hI=>?_);obtain⟨⟨X,cX⟩,j⟩:=x;obtain⟨⟨hj,hfj⟩,d⟩:=hI;dsimp only at hj hfj d;have hjl:(ns.take j).length=j:=by rw[zaj];omega
    try simp only[cK,like,aS]
    refine Za1 ?_;refine Qn (dW (Cp rfl (λa=>?_) (λa=>?_)))
    . have bH:j<ns.length:=oM
      obtain⟨nj,hnj⟩:=get_some bH;have hbn:=Xm hE JA oM (show nj∈eD sums (E++gl) key by rw[<-Pt];exact zam hnj);have VW:ns.take j++[nj]=ns.take (j+1):=by rw[zbd,hnj];rfl
      refine Zb0 ?_;refine Vv (Gives.jJ rfl rfl (bL ((Sep.sees d At8).2.1 _ ZL).2.2) bH) (Vv (Gives.iL rfl (Sep.aJ _) (bL ((Sep.sees d At8).2.1 _ ZL).2.2) hnj) ?_);refine aO d (h:=λb12 _ a _=>?_);refine ak a (h:=λ_ a=>?_);refine Nx (iB a (cs:=bT nj) (h:=?_));refine aD a (Ql nj hbn.1 hbn.2) (h:=λ_ a _=>?_);obtain⟨n1,Jz⟩: ∃n1:Int,n1=if eO nj=true then nj else 0:=⟨_,rfl⟩
      obtain⟨e1,Pp⟩: ∃e1:Int,e1=if eO nj=true then 0 else 50:=⟨_,rfl⟩
      rw[<-Jz,<-Pp];refine Za7 ?_;refine Qn (Cp rfl (λf=>?_) (λf=>?_))
      . have hnf:eO nj≠true:=λh=>f (by rw[Pp,zac h])
        rw[zab hnf]at Pp;have Mx:vQ keys sums E gl=([],50):=aa3 Ev (show nj∈eD sums (E++gl) key by rw[<-Pt];exact zam hnj) hnf;refine Zb3 ?_;subst Pp
        exact⟨(.slice none 0 0,[]),by rw[Mx];rfl,by rw[Mx];rfl,by
          rw[Mx,zab dC];have h1:=Sep.pJ (Y:=λw=>fQ w L0) a At9 (λw h=>h.2.2);exact(Sep.jM (dN (vX h1.fC.ajq.ajr hS).aL.bD.first) 82 2).bD.bD.turn⟩
      have he0:e1=0:=Decidable.of_not_not f
      have hnf:eO nj=true:=by
        cases h:eO nj with
        | true=>rfl
        | false=>rw[h,zab dC]at Pp;omega
      rw[zac hnf]at Jz;subst Jz;refine Zb3 ?_;refine Bs a ([n1].flatMap yS) (λbs _ f _=>?_);refine gP f (news:=[n1]) At2 (by unfold maxLen;simp only[zah];omega) (by simp only[zah];omega) (cells_one (λ_=>rfl) _) (h:=?_);intro v60 f f;rw[VW]at f;obtain⟨X2,cX2,rfl,_,_⟩:=Sep.dQ f At2;refine Vf ?_;refine bB f (h:=λ_ f=>?_);refine Zb0 ?_;refine Vc ((j+1:Nat):Int) ?_;refine Zb1 ?_;exact aj ((X2,cX2),j+1) tR ⟨⟨dO,λn hn=>by
      dsimp only at hn;rw[<-VW]at hn
      rcases zbi.1 hn with hn | hn
      . exact hfj n hn
      rw[zar]at hn;rw[hn];exact hnf⟩,f.dA⟩ dO
    have Yx:j=ns.length:=oM;rw[Yx,zbo]at hfj d;refine Zb2 ?_;refine iB d (cs:=[.slice K key.length ck,.slice X ns.length cX]) (h:=?_);refine Cc (i:=dV key) (v:=agg [.slice K key.length ck,.slice X ns.length cX]) d At6 (h:=λ_ f=>?_);rw[aaY (s:=(.slice K key.length ck,.slice X ns.length cX,key,ns)) (λs hs=>(hJ.nums s hs).2.2.1) yL.1 d9]at f;have hrk: ∀wx,Ec wx C->aQ wx (.slice K key.length ck) ah 3 key:=λwx h=>(h _ ZL).2.1;refine Qn (Ds (λf _ d=>?_));refine Zb6 ?_;refine FGl f 6 (v:=agg [JB,nv0]) rfl rfl (by rw[<-hz1];exact mh (i:=dV key) d At7 rfl rfl) kR ?_;refine pq f 9 d (h:=?_);refine fV f 7 [(9,false),(0,true)] d (QA (-1) (hz2 _ (by first | exact(Sep.sees d At8).2.2 | exact(Sep.sees d At9).2.2)).1 (hz2 _ (by first | exact(Sep.sees d At8).2.2 | exact(Sep.sees d At9).2.2)).2 oM oM) (h:=λy _ hy d _=>?_);obtain⟨yv,Ly⟩:=y;dsimp only at hy d
    have hyl:Ly.length<=1:=by
      have h1:=zbb List.length hy;rw[zaf]at h1;have h2:=su ns0 S (-1);omega
    refine⟨sU,?_⟩;refine A8 f 8 [(9,false)] (d.jK.aL) oM (h:=λv74 _ d=>⟨sU,?_⟩);refine fV f 10 _ d (QA 1 (hrk _ (by first | exact(Sep.sees d At8).2.1 | exact(Sep.sees d At9).2.1)) (by first | exact mY d At2 | exact mY d At1) oM oM) (h:=λz _ hz d _=>?_);obtain⟨zv,Lz⟩:=z;dsimp only at hz d
    have hzl:Lz.length<=1:=by
      have h1:=zbb List.length hz;rw[zaf]at h1;have h2:=su ns key 1;omega
    refine⟨sT,?_⟩
    first | refine A8 f 11 _ d (by rw[zad];omega) (h:=λv77 S a=>⟨sT,?_⟩) | refine A8 f 11 _ (d.aL) (by rw[zad];omega) (h:=λv77 S a=>⟨sT,?_⟩)
    refine Ja f 12 _ (h:=⟨sT,?_⟩);refine Zb0 ?_;have h1:=gL (a.aL.dA) At1;have h2:=Sep.qg (Z:=λw=>fQ w (Ln++[((.slice K key.length ck,.slice X ns.length cX,key,ns):fE)])/\Ec w C/\fQ w L0) (h1.zQ.aU) (λw g1 g2=>⟨g2.1.push (s:=(.slice K key.length ck,.slice X ns.length cX,key,ns)) (hrk _ g2.2.1) g1 yL.1,g2.2⟩)
    exact aj ⟨v77,LI++Ly++Lz,Ln++[(.slice K key.length ck,.slice X ns.length cX,key,ns)],Lf'⟩ tR ⟨by
      dsimp only;rw[zbp];exact xH _ _ (Ly++Lz) (by rw[zau,hy,hz,hz7,<-Pt]) hfj,h2.jL.jL.jL.fC.jL.jL⟩ hLt
  subst ahU;obtain⟨aql,Mx⟩:=hJ.fine hC Ev hE;have qj:=hJ.keys hC
  have aoW:LI.length<=200:=by
    have h1:=zbb List.length hJ.its;rw[zaf]at h1;have h2:=Ov (Ln.map (·.2.2.1)) (eD sums E) (eD sums (E++gl));have h3:=qj.length_eq;have h7:=Ou gl;omega
  refine Zb2 ?_
  have af4: ∀o∈LI.map (·.2),fits o.w/\o.row.length<=1000:=λo ho=>by
    rw[hJ.its]at ho;obtain⟨k,hk,h1,h2⟩:=aa4 ho;have h3:=hkl k (qj.mem_iff.1 hk);have h4:=mg (sums:=sums) (E:=E) (k:=k);have h5:=mg (sums:=sums) (E:=E++gl) (k:=k);refine⟨by unfold fits;omega,?_⟩
    rcases h1 with h1 | h1<;>rw[h1,zad,zaf]<;>omega
  refine dn b (DU (jw b At2) (by rw[zaf];omega) (λo ho=>(af4 o ho).1) (λo ho=>(af4 o ho).2)) (h:=λy _ hy a _=>?_);obtain⟨yv,Ly⟩:=y;rw[<-Mx];rw[<-Mx]at hy;dsimp only at hy a ⊢;refine Za7 ?_;refine Qn (Cp rfl (λS=>?_) (λS=>?_))
  . have d:=S
    have hb:(vQ keys sums E gl).1=[]:=by
      have h1:=S;rw[Mx]at h1 ⊢;rw[vL h1]
    refine Zb3 ?_;exact⟨(.slice none 0 0,[]),rfl,by rw[hb];rfl,by
    rw[zab d];have h1:=Sep.pJ (Y:=λw=>fQ w L0) a At7 (λw h=>h.2.2);exact(Sep.jM (dN (vX h1.aU.jL.zQ hS).aL.bD.first) 82 2).bD.bD.turn⟩
  have he0:(vQ keys sums E gl).2=0:=Decidable.of_not_not S;refine Zb1 ?_;refine Fu a At5 (h:=?_);intro q2 d d;have d:=Sep.pJ (Y:=λw=>fQ w (Ln++L0)) (d.fC.dA.bE.dA) At5 (λw h=>h.1.app h.2.2);refine Zb0 ?_;refine aR (λx:am8=>[(2,av b2),(15,yv),(87,av q2)]) (λx w'=>MW sums E gl L0 Ln x.L x.Lf x.done/\Mw.Sep w F [blk b2 [av bg] 107,blk bg (qd keys sums bh) 150,eU yv Ly,sZ q2 bn (Ln.map gJ) x.Lf,gD bh (x.L.map gJ),gy λw=>fQ w (Ln++L0)] w') (λx _=>x.Lf.length) ⟨L0,Ln.map gJ,[]⟩ tR ⟨MW.start hS,d.aU.aU⟩ (λx τ _ hI=>?_);obtain⟨L,Lf,done⟩:=x;obtain⟨hQ,d⟩:=hI;dsimp only at hQ d
  try simp only[cK,like,aS]
  refine Sr (KW d At3 (h1:=λp Lf' _ ZM S=>?_) (h2:=λZM=>?_))
  . obtain⟨⟨kv,nv,key,ns⟩,V3,rfl,hqy,hqn⟩:=hQ.step (λs hs=>⟨(hJ.nums s hs).1,(hJ.nums s hs).2.2⟩) ZM
    have hLt:Lf'.length<Lf.length:=by have:=(ZM).length_eq;simp only[zal]at this;omega
    have yL:=(hJ.nums _ V3).2.2;dsimp only at hqy hqn yL;have aiG:aQ _ kv ah 3 key/\aQ _ nv yS 1 ns:=(Sep.sees S At5 _ (zcd _ V3)).1;obtain⟨K,ck,rfl,_,_⟩:=aiG.1;obtain⟨X,cX,rfl,_,_⟩:=aiG.2;have vC: ∀t∈uK L (.slice K key.length ck,.slice X ns.length cX,key,ns),fO t.2.2.1:=(hQ.held.put (s:=(.slice K key.length ck,.slice X ns.length cX,key,ns)) yL).fits;refine Zb1 ?_;refine Vv (Gives.Xc S At3 rfl) ?_;have a:=Sep.QF S At3;refine Zb2 ?_;refine aO a (h:=λb18 _ a _=>?_);refine Am ?_;refine ak a (h:=λ_ _=>?_);refine Zb0 ?_;refine Ds (λa _ S=>?_);refine Zb6 ?_;refine QM a 6 _ (i:=dV key) (v:=agg [.slice K key.length ck,.slice X ns.length cX]) S At5 (h:=λ_ S=>⟨sT,?_⟩);rw[Oo (s:=(.slice K key.length ck,.slice X ns.length cX,key,ns)) hQ.held.fits yL.1]at S;refine Zb2 ?_;have hnr:aQ _ (.slice X ns.length cX) yS 1 ns:=(Sep.sees S At6 _ (zcd _ V3)).1.2;refine aD S (Uf (p:=λn=>decide (n≠0)) (fv:=.func (.func 402) #[] #[]) hnr ⟨402,[],[],rfl,inferInstance,λx _ w' _=>aa5 x⟩) (h:=λ_ S _=>?_);refine Vv (Gives.not rfl) (Qn ?_);refine Cd rfl (λa=>?_) (λa=>?_)
    . have af5:(ns.any λn=>decide (n≠0))=false:=by simpa using a
      refine Zb5 ?_;refine Xl (i:=dV key) S At5 (h:=λ_ f=>?_);rw[aaZ vC yL.1]at f;refine Zb0 ?_;exact aj ⟨Ol (uK L (.slice K key.length ck,.slice X ns.length cX,key,ns)) key,Lf',key::done⟩ tR ⟨hqn af5,f.dA⟩ hLt
    have af5:(ns.any λn=>decide (n≠0))=true:=by simpa using a
    refine Zb0 ?_;exact aj ⟨uK L (.slice K key.length ck,.slice X ns.length cX,key,ns),Lf',key::done⟩ tR ⟨hqy af5,S.dA⟩ hLt
  subst ZM;have fu:=hQ.end_ (λk hk=>qj.mem_iff.2 hk);refine Zb4 ?_;exact⟨(yv,Ly),by rw[he0];rfl,hy,by
  rw[zac he0];have h1:=Sep.pJ (Y:=λw=>fQ w L) d At5 (λw h=>h.sub λs hs=>(hQ.from_ s hs).elim (zcd _) (zce _));exact((vX h1.aU.aU.fC.jK fu).aL.bD.aL.bD.first).turn⟩
end
theorem yg.push {w:Wd} {G:List Xi} {g:Xi} (h:yg w G) (h1:aQ w g.1 ah 3 g.2.2.1) (h2:aQ w g.2.1 yS 1 (g.2.2.2.drop 1)):yg w (G++[g]):=λx hx=>by
 rcases zbi.1 hx with hx | hx
 .exact h x hx
 rw[zar]at hx;subst hx;exact⟨h1,h2⟩
theorem yg.set {w:Wd} {G:List Xi} {g:Xi} (j:Nat) (h:yg w G) (h1:aQ w g.1 ah 3 g.2.2.1) (h2:aQ w g.2.1 yS 1 (g.2.2.2.drop 1)):yg w (G.set j g):=λx hx=>by
 rcases List.mem_or_eq_of_mem_set hx with hx | hx
 .exact h x hx
 subst hx;exact⟨h1,h2⟩
section
variable {w:Wd} {F:NP}
end
end Go.Proofs.YtkfpleidaoaonaaGreatDoor
namespace Go.Mw
open Go.RowKit
section
variable {P:Program} {r:Option Nat} {n:Nat} {ops:AO} {Q:Post} {rest:LO} {σ:St} {w w0:Wd} {S:NP} {rs:List HP} {ty:Td} {pos:String} {after:Array Edge}
theorem aa6 {α:Type} {g:Od} {p:Tmp} {assign body:Code} {gf:FuncId} {lb:LV} [he:qb P gf] (enc:α->Value) (φ ψ:List α->Prop) (J:List α->HP) (Fr0 Fr1:List HP) (H:Sep w0 S (J []::Fr0) w)
    (hg:evF σ g=.func (.func gf) #[] lb.toArray) (hp:Nat.blt p n=true)
    (afJ: ∀(l D:Nat) (ro rb:Obj) (pre:List α) (x:α) (Fr:List HP) (W:Wd),φ (pre++[x])->Sep w0 S (obj l ro::obj D (.deferred (some []))::J pre::Fr) W->
      FW P (some l) n assign (JN λτ W'=>∃ex:List HP,Sep w0 S (obj l ro::obj D (.deferred (some []))::(ex++J pre::Fr)) W'/\
        ∀W'',Sep w0 S (obj l rb::obj D (.deferred (some []))::(ex++J pre::Fr)) W''->FW P (some l) n body (JN λ_ W3=>Sep w0 S (obj l rb::obj D (.deferred (some []))::J (pre++[x])::Fr) W3) τ W'') (upd ⟨σ.get,[]⟩ p (enc x)) W)
    (afK: ∀(l D:Nat) (ro:Obj) (W:Wd),Sep w0 S (obj l ro::obj D (.deferred (some []))::J []::Fr0) W->
      (∀(pre:List α) (x:α) (Fr:List HP) (W:Wd),φ (pre++[x])->Sep w0 S (obj l ro::obj D (.deferred (some []))::J pre::Fr) W->QL P l [enc x] W λW'=>Sep w0 S (obj l ro::obj D (.deferred (some []))::J (pre++[x])::Fr) W')->
      aY P gf (.func (.yield l) #[] #[]::lb) W λ_ W'=>∃xs,ψ xs/\Sep w0 S (obj l ro::obj D (.deferred (some []))::J xs::Fr1) W')
    (VO: ∀(D:Nat) (W:Wd) (xs:List α),ψ xs->Sep w0 S (obj D (.deferred (some []))::J xs::Fr1) W->Q .normal ⟨σ.get,{target:=.collected D,args:= #[]}::σ.ds⟩ W):
    FW P none n (.rangeFunc g #[p] assign body) Q σ w:=by
  intro a ha;refine wpIn_rangeFunc λfn hfn=>?_
  let rec_:LoopState->Obj:=λst=>Y6 st fn a.tmps #[p] assign body w.heap.size
  obtain⟨W1,hW1⟩: ∃W1,(w.alloc (.deferred (some []))).alloc (rec_ .ready)=W1:=⟨_,rfl⟩
  have k:Sep w0 S (obj (w.heap.size+1) (rec_ .ready)::obj w.heap.size (.deferred (some []))::J []::Fr0) W1:=by
    have h1:=(H.alloc (.deferred (some []))).alloc (rec_ .ready);rw[World.size_alloc]at h1;rw[<-hW1];exact h1
  refine⟨w.heap.size+1,[{target:=.collected w.heap.size,args:= #[]}],W1,{target:=.fn (.func gf) lb.toArray,args:= #[.func (.yield (w.heap.size+1)) #[] #[]]},W1,gf,
    #[.func (.yield (w.heap.size+1)) #[] #[]]++lb.toArray,W1,?_,?_,λ_ _=>trivial,?_,(λh=>by cases h),?_⟩
  . rw[<-hW1];exact run_enterLoop_outer _ _ _ _ _
  . rw[ha.eval]
    have e1:(rangeCall g (w.heap.size+1)).callee=.value g:=rfl;simp only[resolve,hg,Deferred.ofValue];simp[evF]
  . simp[invoke,he.run]
  have ajX:=afK (w.heap.size+1) w.heap.size (rec_ .ready) W1 k (λpre x Fr W jm HW=>?_)
  . have e:(#[.func (.yield (w.heap.size+1)) #[] #[]]++lb.toArray:Array Value)=(Value.func (.yield (w.heap.size+1)) #[] #[]::lb).toArray:=sM
    rw[e];refine ql none (Calls.mono ajX λen W3 hr=>?_);cases en with
    | returned v=>
      obtain⟨xs,hψ,hr⟩:=hr;have hl:=Sep.obj hr At0;refine⟨none,_,run_endLoop hl sM,?_⟩;refine⟨⟨σ.get,{target:=.collected w.heap.size,args:= #[]}::σ.ds⟩,⟨ha.size,?_,ha.get⟩,VO w.heap.size _ xs hψ ?_⟩
      . show [_]++a.defers=_
        rw[ha.defers];rfl
      exact(Sep.Un hr).dA
    | _=>exact hr.elim

  have hl:=Sep.obj HW At0;refine⟨fn,_,assign,body,run_yield hl sM,?_⟩;refine roundIn_of_wpIn (F:=fen none) trivial ?_;have hb:=afJ (w.heap.size+1) w.heap.size (rec_ .ready) (rec_ .busy) pre x Fr W jm HW
  have ha':Rep n (upd ⟨σ.get,[]⟩ p (enc x)) {tmps:=((#[p].zip [enc x].toArray).foldl (λtmps (t,a)=>tmps.setIfInBounds t a) a.tmps),defers:=[]}:=by
    have h0:Rep n ⟨σ.get,[]⟩ {tmps:=a.tmps,defers:=[]}:=⟨ha.size,rfl,ha.get⟩;have h1:=h0.put (zaw hp) (enc x);simpa[Act.put]using h1
  refine Go.wpIn_mono (hb _ ha') λen a1 W1' ⟨τ,hτ,hq⟩=>?_;cases en with
  | normal=>
    obtain⟨ex,HW1,hB⟩:=hq;have hl1:=Sep.obj HW1 At0;refine⟨_,run_beginRound hl1 rfl,?_⟩;refine Go.wpIn_mono (hB _ (Sep.Un HW1) a1 hτ) λen a2 W2 ⟨τ2,hτ2,pF⟩=>?_;cases en with
    | normal=>
      have hl2:=Sep.obj (show Sep w0 S _ W2 from pF) At0;exact⟨_,_,run_endRound none hl2,rfl,Sep.Un pF⟩
    | _=>exact pF.elim
  | _=>exact hq.elim
end
end Go.Mw
namespace Go.Proofs.YtkfpleidaoaonaaGreatDoor
open Go Go.Mw Go.Lib Go.Proofs.Tryz
set_option maxRecDepth 4000
attribute [local irreducible] FW FL FG FGn fZ gG cO gW Qfn Gives
def aie (s:fE):Value:=agg [s.1,s.2.1]
def zD (L:List fE):List aH:=L.flatMap λs=>iO s.2.2.2 s.2.2.1 1
theorem Xn (L:List fE) (s:fE):zD (L++[s])=zD L++iO s.2.2.2 s.2.2.1 1:=by unfold zD;rw[zby];simp
theorem Fx: ∀L:List fE,(zD L).length<=L.length
 | []=>zbk _
 | s::L=>by
  have h1:=Fx L;have h2:=su s.2.2.2 s.2.2.1 1;unfold zD at h1 ⊢;rw[zbc,zad,zal];omega
def aif (b3:Nat) (L pre:List fE):HP:=exH λz:Value×List Held=>star (jo (z.2.map (·.2)=zD pre)) (star (blk b3 [z.1] 27) (star (eU z.1 z.2) (gy λw=>fQ w L)))
theorem Ox {α:Type} [DecidableEq α]: ∀{a b:List α},a.Nodup->a⊆b->a.length<=b.length
 | [],_,_,_=>zaq _
 | x::a,b,hn,hs=>by
  rw[zer]at hn;have hx:x∈b:=hs zae
  have h1:a⊆b.erase x:=λy hy=>by
   have iC:y≠x:=λe=>hn.1 (by rw[<-e];exact hy);exact(List.mem_erase_of_ne iC).2 (hs (zag _ hy))
  have h2:=Ox hn.2 h1;rw[List.length_erase_of_mem hx]at h2;have h3:=List.length_pos_of_mem hx;rw[zal];omega
theorem aee {sums:Nat} {E:List bQ} {L:List fE} (h:lK (stE sums E) L):L.length<=E.length:=by
 have h1:L.map (·.2.2.1)⊆E.map (·.key):=λk hk=>by
  obtain⟨s,hs,rfl⟩:=zat.1 hk;have h2:=h.is s hs;refine Classical.byContradiction λhm=>?_;have h3: ∀i,nW E s.2.2.1 i=0:=λi=>zo λx hx e=>hm (zat.2 ⟨x,hx,e⟩)
  have h4:stE sums E s.2.2.1=none:=by
   unfold stE;rw[zab];simp only[eD,h3];simp;exact λx _=>h3 x
  rw[h4]at h2;cases h2
 have h5:=Ox h.nd h1;rw[zaf,zaf]at h5;exact h5
theorem Xo {keys sums:Nat} {E:List bQ} {L xs:List fE} (h:lK (stE sums E) L) (hE: ∀x∈E,x.key.length=keys) (hp:xs.Perm L):cZ (zD xs)=(mZ sums E,0):=by
 have e:zD xs=(xs.map (·.2.2.1)).flatMap λk=>YW (stE sums E k) k 1:=by
  unfold zD;rw[List.flatMap_map,List.flatMap_def,List.flatMap_def]
  congr 1
  refine zcw λs hs=>?_;rw[h.is s (hp.mem_iff.1 hs)];rfl
 rw[e];exact aau hE ((hp.map _).symm.nodup h.nd) λk hk=>(hp.map _).mem_iff.2 (h.all k hk)
section
variable {w:Wd} {F:NP}
theorem aa7 (bh:Nat):aY prog 403 [.map (some bh)] w λv w'=>∃b1:Nat,v=.func (.func 411) #[] #[av b1]/\True/\Turn noB (blk b1 [.map (some bh)] 148) w w':=by
 have H:=Sep.aJ w;refine dI func403 rfl rfl rfl rfl ?_;refine Sr (cB H (cs:=[.map (some bh)]) rfl (h:=λb1 _ k _=>?_));refine Zb3 ?_;exact⟨b1,rfl,trivial,k.turn⟩
theorem Xp {w0:Wd} {S:NP} {l Dd bh b1:Nat} {ro:Obj} {J:List fE->HP} {Fr:List HP} {L:List fE} {E1:Td} (qY: ∀s∈L,s.1.oneCell'=true/\s.2.1.oneCell'=true)
    (H:Mw.Sep w0 S (Mw.obj l ro::Mw.obj Dd (.deferred (some []))::J []::blk b1 [.map (some bh)] E1::gD bh (L.map gJ)::Fr) w)
    (hy: ∀(pre:List fE) (x:fE) (Fr:List HP) (W:Wd),(∃r,(pre++[x]++r).Perm L)->Mw.Sep w0 S (Mw.obj l ro::Mw.obj Dd (.deferred (some []))::J pre::Fr) W->QL prog l [aie x] W λW'=>Mw.Sep w0 S (Mw.obj l ro::Mw.obj Dd (.deferred (some []))::J (pre++[x])::Fr) W'):
    aY prog 411 [.func (.yield l) #[] #[],av b1] w λ_ w'=>∃xs:List fE,xs.Perm L/\Mw.Sep w0 S (Mw.obj l ro::Mw.obj Dd (.deferred (some []))::J xs::gD bh (L.map gJ)::Fr) w':=by
  refine dF func411 rfl rfl rfl rfl ?_;refine Zb1 ?_;refine Fu H At4 (h:=?_);intro q k k;refine Zb0 ?_;refine aR (λx:List fE×List Ent=>[(0,.func (.yield l) #[] #[]),(1,av b1),(6,av q)]) (λx w'=>(∃r,(x.1++r).Perm L/\x.2.Perm (r.map gJ))/\Mw.Sep w0 S (Mw.obj l ro::Mw.obj Dd (.deferred (some []))::J x.1::blk b1 [.map (some bh)] E1::sZ q bh (L.map gJ) x.2::Fr) w') (λx _=>x.2.length) ([],L.map gJ) tR ⟨⟨L,List.Perm.refl _,List.Perm.refl _⟩,k⟩ (λx τ _ hI=>?_);obtain⟨pre,Lf⟩:=x;obtain⟨⟨r,VG,Rp⟩,k⟩:=hI;dsimp only at VG Rp k
  try simp only[cK,like,aS,bK]
  refine Sr (KW k At4 (h1:=λp Lf' _ hn6 I=>?_) (h2:=λhn6=>?_))
  . have hLt:Lf'.length<Lf.length:=by have:=(hn6).length_eq;simp only[zal]at this;omega
    obtain⟨s,r',hq,rfl,hL⟩:=Fw ((hn6).symm.trans Rp)
    have BA:(pre++[s]++r').Perm L:=by
      rw[zbp];exact(List.Perm.append_left pre hq.symm).trans VG
    have hsL:s∈L:=BA.mem_iff.1 (zcd _ (zce _ (zar.2 rfl)));obtain⟨kv,nv,key,ns⟩:=s;obtain⟨ho1,ho2⟩:=qY _ hsL;dsimp only at ho1 ho2;refine Zb1 ?_;refine Vv (Gives.Xc I At4 rfl) ?_;have a:=Sep.QF I At4;refine Vx ?_;refine aO a (h:=λb4 _ a _=>?_);refine ak a (us:=[kv,nv]) (hv:=by simp[ho1,ho2]) (h:=λ_ a=>?_);refine Zb1 ?_;refine iB a (cs:=[kv,nv]) (h:=?_);refine aeb rfl (hy pre (kv,nv,key,ns) _ _ ⟨r',BA⟩ (a.dA)) rfl rfl (λ_ a=>?_);refine Za1 ?_;refine Qn (Cd rfl (λI=>?_) (λI=>?_))
    . exact zap I dC
    refine Zb0 ?_;exact aj (pre++[(kv,nv,key,ns)],Lf') tR ⟨⟨r',BA,hL⟩,a⟩ hLt
  subst hn6
  have Yz:r=[]:=by
    have:=Rp.length_eq;rw[zaf]at this;exact zbe this.symm
  subst Yz;rw[zci]at VG;refine Zb1 ?_;exact⟨pre,VG,(Sep.ad1 (k.bE.dA) At3)⟩
theorem Xq {bg bh keys sums:Nat} {E:List bQ} (hp:(star (blk bg (qd keys sums bh) 150) (Ee bh sums E)).ok F w) (hn:E.length<=200) (hEk: ∀x∈E,x.key.length=keys) (ZF:sums<=16):
    aY prog 395 [av bg] w λu w'=>∃x:Value×List Held,u=x.1/\x.2.map (·.2)=mZ sums E/\Turn F (star (eU x.1 x.2) (star (blk bg (qd keys sums bh) 150) (Ee bh sums E))) w w':=by
  have G1:=(Sep.bW hp).bR;obtain⟨L,hS,H⟩:=Oq G1.aL;have hLl:=aee hS;refine dI func395 rfl rfl rfl rfl ?_;refine Zb2 ?_;refine aD H (KP (H.obj At2)) (h:=λ_ k _=>?_);refine Qn (Cd rfl (λS=>?_) (λS=>?_))
  . exact Bool.noConfusion S
  refine Zb0 ?_;refine aO k (h:=λb3 _ S _=>?_);refine Zb4 ?_;refine dn S (aa7 bh) (h:=λb1 S _ k _=>?_);refine Zb0 ?_;have hLn: ∀s∈L,s.2.2.1.length<=16/\s.2.2.2.length<=17:=λs hs=>⟨(hS.fit s hs).2,by rw[KA (hS.is s hs),mg];omega⟩
  have qY: ∀s∈L,s.1.oneCell'=true/\s.2.1.oneCell'=true:=λs hs=>by
    have h1:=(Sep.sees k At2 s hs).1;obtain⟨_,_,e1,_⟩:=h1.1;obtain⟨_,_,e2,_⟩:=h1.2;rw[e1,e2];exact⟨rfl,rfl⟩
  have HJ:Mw.Sep w F (aif b3 L []::[blk b1 [.map (some bh)] 148,gD bh (L.map gJ),blk bg (qd keys sums bh) 150]) S:=by
    have h1:=(Sep.jM (dN k.aU) 82 2).bD.bD.aU.bD;exact Sep.uq (p:=λz:Value×List Held=>star (jo (z.2.map (·.2)=zD [])) (star (blk b3 [z.1] 27) (star (eU z.1 z.2) (gy λw=>fQ w L)))) (.slice none 0 0,[]) (Sep.bD (Sep.jS rfl h1))
  refine aa6 (gf:=411) (lb:=[av b1]) aie (λpre=>∃r,(pre++r).Perm L) (λxs=>xs.Perm L) (aif b3 L) _ [gD bh (L.map gJ),blk bg (qd keys sums bh) 150] HJ rfl rfl ?_ ?_ ?_
  . intro l D ro rb pre x Fr W jm HW
    obtain⟨r,BA⟩:=jm;have hsL:x∈L:=BA.mem_iff.1 (zcd _ (zce _ (zar.2 rfl)))
    have Yu:pre.length<=L.length:=by
      have:=BA.length_eq;rw[zad,zad]at this;omega
    obtain⟨kv,nv,key,ns⟩:=x;obtain⟨ho1,ho2⟩:=qY _ hsL;obtain⟨hl1,hl2⟩:=hLn _ hsL;dsimp only at ho1 ho2 hl1 hl2;refine Zb0 ?_;refine aO HW (h:=λb17 _ k _=>?_);refine ak k (us:=[kv,nv]) (hv:=by simp[ho1,ho2]) (h:=λ_ k=>?_);refine uT (pO ?_);refine⟨[blk _ [kv,nv] 440],Sep.El k,λWB HB=>?_⟩;obtain⟨⟨xv,LI⟩,HB1⟩:=Sep.ex0 (Sep.bE HB);obtain⟨hLI,HB2⟩:=Sep.rO HB1.bR;replace HB2:=HB2.bR.aL.bR;dsimp only at hLI HB2
    have aoY:LI.length<=200:=by
      have h1:=zbb List.length hLI;rw[zaf]at h1;have h2:=Fx pre;omega
    refine Zb0 ?_;refine Ds (λk _ S=>?_);refine Zb2 ?_;refine fV k 2 [(0,false)] S (QA 1 (Sep.sees S At1 _ hsL).1.1 (Sep.sees S At1 _ hsL).1.2 dO dO) (h:=λy _ hy S _=>?_);obtain⟨yv,Ly⟩:=y;dsimp only at hy S
    have hyl:Ly.length<=1:=by
      have h1:=zbb List.length hy;rw[zaf]at h1;have h2:=su ns key 1;omega
    refine⟨sL,?_⟩;refine A8 k 3 _ S oM (h:=λv18 _ S=>?_);obtain⟨X18,c18,rfl,_,_⟩:=Sep.dQ (S.bR) At0;refine⟨sT,?_⟩;refine mM k 4 _ S (h:=λ_ S=>⟨sT,?_⟩);refine fF k kR ?_;refine uo (pO ?_);have h1:=S.bD.aL.bD;exact(Sep.bE (Sep.uq (p:=λz:Value×List Held=>star (jo (z.2.map (·.2)=zD (pre++[((kv,nv,key,ns):fE)]))) (star (blk b3 [z.1] 27) (star (eU z.1 z.2) (gy λw=>fQ w L)))) (.slice X18 (eu (LI++Ly)).length c18,LI++Ly) (Sep.bD (Sep.jS (by dsimp only;rw[zau,hLI,hy,Xn]) h1)))).dA.El
  . intro l D ro W HW hy
    exact Xp qY HW hy
  intro D S xs hxs HD;obtain⟨⟨xv,LI⟩,HD1⟩:=Sep.ex0 HD.aL;obtain⟨hLI,HD2⟩:=Sep.rO HD1.bR;have S:=HD2.bR.aL.bR;dsimp only at hLI S
  have aoY:LI.length<=200:=by
    have h1:=zbb List.length hLI;rw[zaf]at h1;have h2:=Fx xs;have h3:=hxs.length_eq;omega
  have af4: ∀o∈LI.map (·.2),fits o.w/\o.row.length<=1000:=λo ho=>by
    rw[hLI]at ho;obtain⟨s,hs,ho⟩:=zcz.1 ho;have h1:=vY ho;have h2:=hLn s (hxs.mem_iff.1 hs);exact⟨by rw[h1.2];exact⟨dC,dC⟩,by rw[h1.1,zad,zaf];omega⟩
  refine Zb1 ?_;refine dn S (DU (jw S At0) (by rw[zaf];omega) (λo ho=>(af4 o ho).1) (λo ho=>(af4 o ho).2)) (h:=λy _ hy S _=>?_);obtain⟨yv,Ly⟩:=y;rw[hLI,Xo hS hEk hxs]at hy;dsimp only at hy S ⊢;refine Za7 ?_;refine Qn (dX (ae3 S At4 (hR:=λ_ S=>?_)));exact⟨(yv,Ly),rfl,hy,by
  have h1:=S;exact((vX (h1.jL.jL.fC) hS).aL.bD.aL.bD.first).turn⟩
end
theorem K3 {α:Type} {L:List α} {i:Nat} {b:α} (h:L[i]? =some b):L.drop i=b::L.drop (i+1):=by
 have hi:i<L.length:=(zaz.1 h).1;rw[zbn hi]
 congr 1
 exact(zaz.1 h).2
section
variable {w:Wd} {F:NP}
end
end Go.Proofs.YtkfpleidaoaonaaGreatDoor
