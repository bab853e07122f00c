/-
 A stack's take and put,walked;how many values a step takes;words of nothing;may a type be.
-/
import Derived.Test.YtbfjonalkaophaaGreatDoorNk10
import Derived.Test.YtbfjonalkaophaaGreatDoorShelf
set_option linter.all false
set_option maxRecDepth 4000
namespace Go.Proofs.Mw
variable {A:OA} {c n:Nat}
open Go.RowKit
section gives
variable {P:Program} {ρ:Od->Value} {ty:Td} {w:Wd} {x y z:Od}
def ah.UF {t e:Td} [s:dR P t e] {size b:Nat} [p:Cells P e size b] {h m:Nat} {k j:IntKind} (u:ρ x=.slice A n c) (v:ρ y=.int k h) (H:ρ z=.int j m) (f:h<=m) (d:m<=c):ah P ρ (.slice t x none (some y) (some z)) ty w (.slice A h m) w:=λ_ _ _ _=>by
 obtain⟨i,hi,q⟩:=zbb.1 p.size;have g:(0:Int)<=(h:Int)/\(h:Int)<=(m:Int):=oM;have l:(0:Int)<=(m:Int)/\(m:Int)<=(c:Int):=oM;have o:A.map (λx:Addr=>x.add 0)=A:=by cases A<;>simp[Addr.add_zero']
 simp[execOp,u,v,H,Instr.sliceAt,run_underlying s.und,Instr.slice,Instr.sliceBounds,Instr.sliceBound,asIntOf,g,l,sizeOf,typeInfo,hi,o,f,d]
end gives
variable {E b:Nat} {F:NP}
open Go.Lib
section
attribute [local irreducible] FW FL FG FGn jX lg gD l7 Qfn ah
section
variable {w:Wd}
def RD {k:Nat} (f:(blk b [.slice A n c] E).ok F w) (j:k<=n) (e:n<=c) (i:n<=9223372036854775807):
    aX Tryz.prog 157 [.pointer (some ⟨b,0,none⟩),I k] w λv g=>v=.tuple #[.slice (if c=n-k then A else A.map (·.add ((n-k)*2))) k (c-(n-k)),.bool true]/\cO F (blk b [.slice A (n-k) (n-k)] E) w g:=by
  have H:=Sep.dA f;refine dn Tryz.func157 ?_;refine V8 ?_;refine Vc ((n-k:Nat):Int) ?_;refine Cz (λh=>?_) (λh=>?_)
  . exact zas h oM
  refine V5 ?_;refine Vv (ah.sliceFrom rfl rfl oM) ?_;rw[show n-(n-k)=k from oM];refine V8 ?_;refine Vv (ah.UF rfl rfl rfl oM oM) (Uz (λl d=>?_));refine V3 ?_;exact⟨rfl,d.bf⟩
def LC {k:Nat} (e:(blk b [.slice A n c] E).ok F w) (g:n<k) (d:k<=1000000):
    aX Tryz.prog 157 [.pointer (some ⟨b,0,none⟩),I k] w λv f=>v=.tuple #[.slice none 0 0,.bool false]/\cO F (blk b [.slice A n c] E) w f:=by
  have H:=Sep.dA e;refine dn Tryz.func157 ?_;refine Cz (λh=>?_) (λh=>?_)
  . refine V2 ?_
    exact⟨rfl,H.bf⟩
  exact zas (show((n:Int)-k)<0 from oM) h
def UG {l n:List bZ} {L:Value} (q:(blk b [.slice A l.length l.length] E).ok F w) (s:Rd w A aG 2 l) (p:aP w L aG 2 n) (c:0<n.length) (d:l.length+n.length<=1000000):
    aX Tryz.prog 161 [.pointer (some ⟨b,0,none⟩),L] w λv t=>∃x,v=.tuple #[]/\True/\cO F (dx (blk b [x] E) (aY 46 2 aG x (l++n))) w t:=by
  obtain⟨B,m,rfl,⟨D,o⟩,g⟩:=p;have H:=Sep.dA q;refine dn Tryz.func161 ?_;refine V6 ?_;refine Oe H s g c kS oM (dW (λ_=>rfl) _) (h:=?_);intro G J e k;obtain⟨u,C,rfl,j,i⟩:=Sep.bX e At0;refine Uz (λK f=>?_);refine V0 ?_;exact⟨_,rfl,trivial,(f.aJ.aZ).bf⟩
def RF {k:Nat} (f:(blk b [.slice A n c] E).ok F w) (j:k<=n) (e:n<=c) (i:n<=9223372036854775807):
    aX Tryz.prog 173 [.pointer (some ⟨b,0,none⟩),I k] w λv g=>v=.tuple #[.slice (if c=n-k then A else A.map (·.add ((n-k)*3))) k (c-(n-k)),.bool true]/\cO F (blk b [.slice A (n-k) (n-k)] E) w g:=by
  have H:=Sep.dA f;refine dn Tryz.func173 ?_;refine V8 ?_;refine Vc ((n-k:Nat):Int) ?_;refine Cz (λh=>?_) (λh=>?_)
  . exact zas h oM
  refine V5 ?_;refine Vv (ah.sliceFrom rfl rfl oM) ?_;rw[show n-(n-k)=k from oM];refine V8 ?_;refine Vv (ah.UF rfl rfl rfl oM oM) (Uz (λl d=>?_));refine V3 ?_;exact⟨rfl,d.bf⟩
def xI {l n:List aF} {L:Value} (q:(blk b [.slice A l.length l.length] E).ok F w) (s:Rd w A aj 3 l) (p:aP w L aj 3 n) (c:0<n.length) (d:l.length+n.length<=1000000):
    aX Tryz.prog 175 [.pointer (some ⟨b,0,none⟩),L] w λv t=>∃x,v=.tuple #[]/\True/\cO F (dx (blk b [x] E) (aY 48 3 aj x (l++n))) w t:=by
  obtain⟨B,m,rfl,⟨D,o⟩,g⟩:=p;have H:=Sep.dA q;refine dn Tryz.func175 ?_;refine V6 ?_;refine Oe H s g c kS oM (dW (λ_=>rfl) _) (h:=?_);intro G J e k;obtain⟨u,C,rfl,j,i⟩:=Sep.bX e At0;refine Uz (λK f=>?_);refine V0 ?_;exact⟨_,rfl,trivial,(f.aJ.aZ).bf⟩
def aap (k:Int):Rk Tryz.prog 158 [I k] w (I (eD k)):=by
 have H:=Sep.aI w;obtain⟨r,ay⟩: ∃r,r=eD k:=⟨_,rfl⟩;rw[<-ay];unfold eD at ay;refine dL Tryz.func158 ?_;refine Cz (λh=>?_) (λh=>?_)
 .rw[zac h]at ay
  refine V1 ?_;exact⟨by rw[ay];rfl,H.au⟩
 rw[zab h]at ay;refine Sz (λS=>?_) (λS=>?_)
 .refine V7 ?_
  exact⟨by rw[ay,zac oM];rfl,H.au⟩
 refine Sz (λd=>?_) (λd=>?_)
 .refine V5 ?_
  exact⟨by rw[ay,zac oM];rfl,H.au⟩
 refine Sz (λe=>?_) (λe=>?_)
 .refine V3 ?_
  exact⟨by rw[ay,zac oM];rfl,H.au⟩
 refine Cz (λc=>?_) (λc=>?_)
 .refine V1 ?_
  exact⟨by rw[ay,zac oM];rfl,H.au⟩
 rw[zab oM]at ay;refine V1 ?_;exact⟨by rw[ay];rfl,H.au⟩
def RG (k:Int):Rk Tryz.prog 148 [I k] w (str (oN k)):=by
 have H:=Sep.aI w;obtain⟨r,ay⟩: ∃r,r=oN k:=⟨_,rfl⟩;rw[<-ay];unfold oN at ay;refine dL Tryz.func148 ?_;refine Cz (λh=>?_) (λh=>?_)
 .rw[zac h]at ay
  refine V1 ?_;exact⟨by rw[ay];rfl,H.au⟩
 rw[zab h]at ay;refine Cz (λc=>?_) (λc=>?_)
 .rw[zac c]at ay
  refine V1 ?_;exact⟨by rw[ay];rfl,H.au⟩
 rw[zab c]at ay;refine Cz (λd=>?_) (λd=>?_)
 .rw[zac d]at ay
  refine V1 ?_;exact⟨by rw[ay];rfl,H.au⟩
 rw[zab d]at ay;refine Cz (λe=>?_) (λe=>?_)
 .rw[zac e]at ay
  refine V1 ?_;exact⟨by rw[ay];rfl,H.au⟩
 rw[zab e]at ay;refine V1 ?_;exact⟨by rw[ay];rfl,H.au⟩
def zN (t:bZ):Rk Tryz.prog 162 [agg (aG t)] w (.bool (mX t)):=by
 have H:=Sep.aI w;refine dL Tryz.func162 ?_;refine Sr (bK H (cs:=aG t) rfl (h:=λb e d k=>?_));refine Sz (λc=>?_) (λc=>?_)
 .refine V5 ?_
  exact⟨by unfold mX;exact zay Value.bool (zbg.2 oM),d.au⟩
 refine V2 ?_;exact⟨by unfold mX;rw[zam oM];rfl,d.au⟩
end
end
section gives
variable {P:Program} {ρ:Od->Value} {ty:Td} {w:Wd}
def ah.Bg {T e:Td} {size b:Nat} [g:zI P T n e] [j:Cells P e size b] {z:Value} [m:Zero P T z] {o:LV} {parts:List (Nat×Od)} {out:LV} (f:z.cells=o.toArray) (h:bQ (λi:Nat=>some (i*size,size)) ρ parts o out):
    ah P ρ (.build T parts.toArray) ty w (.agg out.toArray) w:=λ_ _ _ _=>by
  obtain⟨i,hi,c⟩:=zbb.1 j.size;simp only[Prod.mk.injEq]at c;have l:=FZ h;simp only[execOp,Instr.build,zbj,m.run,zar,run_underlying g.und,sizeOf,typeInfo,hi,f,zbl,zch,c.1];have d:Instr.fill (λi=>some (i*size,size)) o.toArray (List.map (λx=>(x.fst,ρ x.snd)) parts)=some out.toArray:=l;simp[hi,c.1,d]
end gives
section
attribute [local irreducible] FW FL FG FGn jX lg gD l7 Qfn ah
section
section
variable {w:Wd}
def aej {E:Td} (c:bF) (n:Int) (e:w.heap[b]? =some (.cells #[I n] E (0,0))):Rk Tryz.prog 255 [agg (aL c),.pointer (some ⟨b,0,none⟩)] w (.bool (decide (c.id=n))):=by
 have H:=Sep.aI w;refine dn Tryz.func255 ?_;refine Sr (bK H (cs:=aL c) rfl (h:=λf g d k=>?_));refine V3 ?_;refine eP (cs:=[I n]) (d.au.get e id) (h:=?_);refine V2 ?_;exact⟨rfl,d.au⟩
def find_ok {q:List bF} {v:Value} (n:Int) (i:aP w v aL 7 q):Rk Tryz.prog 176 [v,I n] w (I (zM (jM q n))):=by
 have H:=Sep.aI w;refine dn Tryz.func176 ?_;refine Sr (bK H (h:=λb o f k=>?_));refine V3 ?_;have d:=f.obj At0;have e:tH _ (.func (.func 255) #[] #[.pointer (some ⟨b,0,none⟩)]) (λc=>agg (aL c)) (λc=>decide (c.id=n)):=⟨255,[],[.pointer (some ⟨b,0,none⟩)],rfl,eT,λc l j=>aej c n (j.get d id)⟩;refine Kz (UC (i.aK f.au) e) (λp g m=>?_);refine V1 ?_;exact⟨rfl,g.au⟩
attribute [local irreducible] mX
def aje {cols:List bF} {vc:Value} (x:bH) (M:aP w vc aL 7 cols) (h1:1<=x.kind) (h6:x.kind<=6):Rk Tryz.prog 159 [vc,agg (aQ x)] w (.tuple #[agg (aG ((iW cols x).getD iq)),.bool (iW cols x).isSome]):=by
  have t:=M;obtain⟨A,m,rfl,⟨hm,X⟩,p⟩:=M;have H:=Sep.aI w;obtain⟨r,ay⟩: ∃r,r=iW cols x:=⟨_,rfl⟩;rw[<-ay];unfold iW at ay;refine tQ Tryz.func159 ?_;refine Sr (bK H (cs:=aQ x) rfl (h:=λQ w2 Y k0=>?_));refine Az (λT w4 Z k3=>?_);refine V1 ?_;refine Vv (ah.Bg (out:=[I 0,I 0,I 3,I 1,I 4,I 5]) rfl (bQ.one rfl rfl rfl sM rfl (bQ.one rfl rfl rfl sM rfl (bQ.one rfl rfl rfl sM rfl (bQ.one rfl rfl rfl sM rfl bQ.nil))))) (Az (λV w8 a k7=>?_));refine Tz (λwa D=>?_);refine Cz (λR=>?_) (λR=>?_)
  . rw[zab oM,zab oM,zab oM,zab oM,zab oM]at ay
    refine V2 ?_;refine Vb (aG ⟨x.n,true⟩) ?_;refine Tz (λwb E=>?_);refine V1 ?_;exact⟨_,dD E,by rw[ay];rfl,E.au⟩
  refine Cz (λq=>?_) (λq=>?_)
  . rw[zac q]at ay
    refine Kz (find_ok x.n (t.aK D.au)) (λwc N ka=>?_);refine Sz (λS=>?_) (λS=>?_)
    . have v:jM cols x.n=none:=by
        cases g:jM cols x.n with
        | none=>rfl
        | some i=>
          rw[g]at S;exact zas (show((i:Nat):Int)<0 from S) oM
      rw[v]at ay;refine V1 ?_;refine Vb (aG iq) ?_;refine Tz (λwd F=>?_);refine V1 ?_;exact⟨_,dD F,by rw[ay];rfl,F.au⟩
    obtain⟨i,g⟩: ∃i,jM cols x.n=some i:=by
      cases g:jM cols x.n with
      | none=>rw[g]at S;exact zas (show(-1:Int)<0 from dC) S
      | some i=>exact⟨i,rfl⟩
    have j:=Gh g;obtain⟨c,d⟩:=aN (l:=cols) (i:=i) j;rw[g]at ay;dsimp only at ay;rw[jP d]at ay;refine V2 ?_;rw[show(zM (jM cols x.n))=((i:Nat):Int) by rw[g];rfl];refine Vv (ah.fT rfl rfl p j) (V1 ?_);refine Vv (ah.EK (us:=aG c.type) rfl N p d rfl rfl) (On ?_);refine Kz (zN c.type) (λwe O kb=>?_);refine O2 ?_;refine Qn (Cd rfl (λo=>?_) (λo=>?_))
    . rw[zac (by first | exact o | (have h:=o;revert h;cases mX c.type<;>simp))]at ay
      refine Sr (Vb (aG iq) ?_);refine Tz (λwf G=>?_);refine V1 ?_;exact⟨_,dD G,by rw[ay];rfl,G.au⟩
    rw[zab (by have h:=o;revert h;cases mX c.type<;>simp)]at ay;refine V2 ?_;refine Vv (ah.fT rfl rfl p j) (V1 ?_);refine Vv (ah.EK (us:=aG c.type) rfl O p d rfl rfl) (Az (λb wg y kc=>?_));refine Tz (λwh z=>?_);refine Cz (λs=>?_) (λs=>?_)
    . rw[zac s]at ay
      refine Uz (λwi P=>?_);refine Tz (λwj J=>?_);refine V1 ?_;exact⟨_,dD J,by rw[ay];rfl,J.au⟩
    rw[zab s]at ay;refine Tz (λwk K=>?_);refine V1 ?_;exact⟨_,dD K,by rw[ay];rfl,K.au⟩
  rw[zab q]at ay;have C:((x.kind.toNat:Nat):Int)=x.kind:=zcv oM
  obtain⟨k,u,W⟩: ∃k:Int,r=some ⟨k,false⟩/\[(0:Int),0,3,1,4,5][x.kind.toNat]? =some k:=by
    rcases (by omega :x.kind=2\/x.kind=3\/x.kind=4\/x.kind=5)with e | e | e | e<;>rw[e]at ay |- <;>exact⟨_,ay,rfl⟩
  have hR:Rd _ (some ⟨V,0,none⟩) intCells 1 [(0:Int),0,3,1,4,5]:=Sep.mg D At0 rfl;refine V2 ?_;refine Vv (ah.BD (i:=x.kind.toNat) rfl (by rw[C];rfl) oM) ?_;refine Vv (ah.yh (f:=0) (i:=x.kind.toNat) rfl hR W rfl) (Vb (aG ⟨k,false⟩) ?_);refine Tz (λwl L=>?_);refine V1 ?_;exact⟨_,dD L,by rw[u];rfl,L.au⟩
end
end
end
variable {P:Program} {r:Option Nat} {n:Nat} {ops:AO} {Q:Post} {σ:St} {w w0:Wd} {S:NP} {rs:List HP} {ty:Td} {pos:String} {after:Array Edge} {guard:Option (Nat×Bool)} {lv:List Bool} {pd:LNB}
variable {f:FuncId} {xs:List Od} {ats:Array Td} {R:Value->Wd->Prop}
def akR {q:Option Nat} {y:Od} {s cs:LV} {p:LV} {K:St->Wd->Prop} (o:evF σ y=.func (.func f) s.toArray cs.toArray) (j:aX P f (s++p++cs) w R) (m:xs.map (evF σ)=p)
    (h: ∀v g,R v g->K (rY σ q v) g) (l:qB P f:=by exact eT):MU P σ w ⟨q,.call {callee:=.value y,args:=xs.toArray,argTypes:=ats},ty,pos,after,guard⟩ K:=by
  unfold MU
  have e:(execOp (evF σ) ⟨q,.call {callee:=.value y,args:=xs.toArray,argTypes:=ats},ty,pos,after,guard⟩).run P w=.ok (.enter f (s++p++cs).toArray) w:=by
    simp[execOp,resolve,o,Deferred.ofValue,invoke,m];rw[<-l.run (s++(p++cs)).toArray w]
  rw[e];refine Calls.mono j λi c d=>?_;cases i with
  | returned v=>exact h v c d
  | _=>exact d.elim
def lH (i:eY n ops=true) (e:Nat) (c:LNB) {d:Nat} {y:Od} {f:FuncId} {fs cs:LV} {vals:LV}
    (t:evF σ y=.func (.func f) fs.toArray cs.toArray) (m:aX P f (fs++vals++cs) w R)
    (o:ops[e]? =some ⟨some d,.call {callee:=.value y,args:=xs.toArray,argTypes:=ats},ty,pos,after,guard⟩:=by exact rfl)
    (s:Region.wanted ⟨some d,.call {callee:=.value y,args:=xs.toArray,argTypes:=ats},ty,pos,after,guard⟩ (dG ops σ)=true:=by kernel_rfl) (q:xs.map (evF σ)=vals:=by exact rfl) (g:gy ops lv (pd.map (·.1)) e=true:=by kernel_rfl)
    (j:pd.filter (λp=> !((above ops e).contains p.1))=c:=by exact pD) (h: ∀v l,R v l->jK P ops (upd σ d v) l c/\FG P r n ops Q (lv.set e true) c (upd σ d v) l) (he:qB P f:=by exact eT):FG P r n ops Q lv pd σ w:=
  C8 i o g s c j (akR t m q h)
def pX (i:eY n ops=true) (e:Nat) (c:LNB) {d:Nat} {y:Od} {f:FuncId} {fs cs:LV} {vals:LV}
    (t:evF σ y=.func (.func f) fs.toArray cs.toArray) (m:aX P f (fs++vals++cs) w R)
    (o:ops[e]? =some ⟨some d,.call {callee:=.value y,args:=xs.toArray,argTypes:=ats},ty,pos,after,guard⟩:=by exact rfl)
    (s:Region.wanted ⟨some d,.call {callee:=.value y,args:=xs.toArray,argTypes:=ats},ty,pos,after,guard⟩ (dG ops σ)=true:=by kernel_rfl) (q:xs.map (evF σ)=vals:=by exact rfl) (g:oK ops lv (pd.map (·.1)) e=true:=by kernel_rfl)
    (j:pd.filter (λp=> !((above ops e).contains p.1))=c:=by exact pD) (h: ∀v l,R v l->jK P ops (upd σ d v) l c/\FG P r n ops Q (lv.set e true) c (upd σ d v) l) (u:qB P f:=by exact eT):pV P r n ops Q lv pd σ w e:=
  NH i o g s c j (akR t m q h)
variable {k:Int} {l:List bZ}
open Go.Proofs.Tryz
section
attribute [local irreducible] FW FL FG FGn jX lg gD l7 Qfn ah
section
def Bh {α:Type} (k:Int) (l:List α) (a b:α):Prop:=(l=[a]/\a=b/\(k=10\/k=15\/k=16\/k=18))\/(l=[a,b]/\k≠10/\k≠15/\k≠16/\k≠18)
def Bh.any {d:Type} {l:List d} {a b:d} (h:Bh k l a b) (p:d->Bool):l.any p=(p a||p b):=by
 rcases h with⟨rfl,rfl,_⟩ | ⟨rfl,_⟩
 .simp
 simp
def Bh.get {d:Type} {l:List d} {a b:d} (h:Bh k l a b):l[0]? =some a/\l[l.length-1]? =some b/\0<l.length:=by
 rcases h with⟨rfl,rfl,_⟩ | ⟨rfl,_⟩
 .exact⟨rfl,rfl,sM⟩
 exact⟨rfl,rfl,sM⟩
def within (want:List Int) (t:bZ):Bool:=want.any λy=>decide (t.kind=y)
section
variable {w:Wd}
def abw (t:bZ):Rk prog 242 [agg (aG t)] w (.bool t.null):=by
 have H:=Sep.aI w;refine dL func242 ?_;refine Sr (bK H (cs:=aG t) rfl (h:=λb d c k=>?_));refine V4 ?_;exact⟨rfl,c.au⟩
def abx (t:bZ):Rk prog 243 [agg (aG t)] w (.bool (!t.null)):=by
 have H:=Sep.aI w;refine dL func243 ?_;refine Sr (bK H (cs:=aG t) rfl (h:=λb d c k=>?_));refine V3 ?_;refine Vv (ah.not rfl) (V1 ?_);exact⟨rfl,c.au⟩
def XZ {E:Td} {m:List Int} {v:Value} (t:bZ) (e:w.heap[b]? =some (.cells #[v] E (0,0))) (f:aP w v intCells 1 m):Rk prog 240 [agg (aG t),.pointer (some ⟨b,0,none⟩)] w (.bool (!within m t)):=by
 have H:=Sep.aI w;refine dn func240 ?_;refine Sr (bK H (cs:=aG t) rfl (h:=λg j c k=>?_));refine V1 ?_;refine eP (cs:=[v]) (c.au.get e id) (h:=?_);refine Kz (XY t.kind (f.aK c.au)) (λl d i=>?_);refine Vv (ah.not rfl) (V1 ?_);exact⟨rfl,d.au⟩
def yR {E:Td} {D:List Int} {G J:Value} (p:w.heap[b]? =some (.cells #[J] E (0,0))) (q:aP w J aG 2 l) (m:aP w G intCells 1 D):Rk prog 238 [G,.pointer (some ⟨b,0,none⟩)] w (.bool (!(l.any λt=> !within D t))):=by
 have H:=Sep.aI w;have g:G.cells= #[G]:=by obtain⟨A,c,rfl,_⟩:=m;rfl
 refine dn func238 ?_;refine Sr (bK H (cs:=[G]) rfl g (h:=λi v d k=>?_));refine V1 ?_;refine eP (cs:=[J]) (d.au.get p id) (h:=?_);refine V1 ?_;have e:=d.obj At0;have f:tH _ (.func (.func 240) #[] #[.pointer (some ⟨i,0,none⟩)]) (λt=>agg (aG t)) (λt=> !within D t):=⟨240,[],[.pointer (some ⟨i,0,none⟩)],rfl,eT,λt s j=>XZ t (j.get e id) ((m.aK d.au).aK j)⟩;refine Kz (Bf (q.aK d.au) f) (λC o u=>?_);refine Vv (ah.not rfl) (V1 ?_);exact⟨rfl,o.au⟩
end
def Bh.all {a b:bZ} (h:Bh k l a b) (w:List Int):(!(l.any λt=> !within w t))=(within w a&&within w b):=by
 rw[h.any];cases within w a<;>cases within w b<;>rfl
def Pg {r:Option bZ} {t:bZ} {ok:Bool} (c:ok=r.isSome) (d: ∀y,r=some y->t=y): ∃h,Value.tuple #[agg (aG t),.bool ok]=.tuple #[agg (aG h),.bool r.isSome]/\∀x,r=some x->h=x:=
 ⟨t,by rw[c],d⟩
def Bj {P:Prop} [Decidable P] {t u:bZ} {ok:Bool} (e:ok=decide P) (f:t=u): ∃d,Value.tuple #[agg (aG t),.bool ok]=.tuple #[agg (aG d),.bool (if P then some u else none).isSome]/\∀x,(if P then some u else none)=some x->d=x:=by
 refine Pg ?_ λy c=>?_
 .rw[e];by_cases h:P
  .rw[zac h,zau h];rfl
  rw[zab h,zam h];rfl
 by_cases h:P
 .rw[zac h]at c;injection c with c;rw[f,c]
 rw[zab h]at c;cases c
def ow (k:Int) (t:bZ):within [k] t=decide (t.kind=k):=by simp[within]
def LD (j k:Int) (t:bZ):within [j,k] t=decide (t.kind=j\/t.kind=k):=by simp[within]
def E8 (P Q:Prop) [Decidable P] [Decidable Q]:(decide P&&decide Q)=decide (P/\Q):=by
 by_cases h:P<;>by_cases c:Q<;>simp[h,c]
section
variable {w:Wd}
theorem aek {a b:bZ} {vl:Value} (hl:aP w vl aG 2 l) (s:Bh k l a b) (h7:7<=k) (h18:k<=18):aX Tryz.prog 160 [I k,vl] w λv D=>(∃t,v=.tuple #[agg (aG t),.bool (vX k a b).isSome]/\∀x,vX k a b=some x->t=x)/\aS noB w D:=by
 have j:=hl;obtain⟨A,m,rfl,⟨hm,Gj⟩,R⟩:=hl;have H:=Sep.aI w;obtain⟨C,_,Q⟩:=s.get;obtain⟨r,ay⟩: ∃r,r=vX k a b:=⟨_,rfl⟩;rw[<-ay];unfold vX at ay;have J:=s.any λt=>t.null
 have q:(!(l.any λt=> !t.null))=(a.null&&b.null):=by
  rw[s.any];cases a.null<;>cases b.null<;>rfl
 refine tQ Tryz.func160 ?_;refine Sr (bK H (cs:=[.slice A l.length m]) rfl (h:=λo w2 H2 k0=>?_));refine Az (λF w4 H4 k3=>?_);refine Kz (Bf (p:=λt=>t.null) (j.aK H4.au) ⟨242,[],[],rfl,eT,λt T _=>abw t⟩) (λwa Ha k9=>?_);rw[J];refine Kz (Bf (p:=λt=> !t.null) (j.aK Ha.au) ⟨243,[],[],rfl,eT,λt T _=>abx t⟩) (λwb K ka=>?_);refine Vv (ah.not rfl) ?_;rw[q];refine O2 ?_;refine Qn (rZ (dU (λ_:Unit=>[(0,I k),(3,.pointer (some ⟨o,0,none⟩)),(4,.pointer (some ⟨F,0,none⟩)),(6,.func (.func 238) #[] #[.pointer (some ⟨o,0,none⟩)]),(7,.bool (a.null||b.null)),(8,.bool (a.null&&b.null)),(15,I k),(16,.bool (decide (k=7\/k=8\/k=9\/k=10)))]) (λ_ D=>Sep w noB [blk F [.int .i64 0,.bool false] 46,blk o [.slice A l.length m] 224] D) ?_ ?_))
 .refine Cz (λIe=>?_) (λIe=>?_)
  .refine V0 ?_
   exact aA () ⟨rfl,rfl,rfl,rfl,rfl,rfl,rfl,zay Value.bool (zbg.2 oM),trivial⟩ K
  refine Cz (λIf=>?_) (λIf=>?_)
  .refine V0 ?_
   exact aA () ⟨rfl,rfl,rfl,rfl,rfl,rfl,rfl,zay Value.bool (zbg.2 oM),trivial⟩ K
  refine Cz (λIg=>?_) (λIg=>?_)
  .refine V0 ?_
   exact aA () ⟨rfl,rfl,rfl,rfl,rfl,rfl,rfl,zay Value.bool (zbg.2 oM),trivial⟩ K
  refine V2 ?_;exact aA () ⟨rfl,rfl,rfl,rfl,rfl,rfl,rfl,zay Value.bool (zbg.2 oM),trivial⟩ K
 intro _ τ wc W;refine Lp ?_;refine Cz (λY=>?_) (λY=>?_)
 .rw[zac Y]at ay
  refine V1 ?_;refine Vb (aG ⟨3,a.null||b.null⟩) ?_;refine Mv ?_;refine j5 W (xs:=[_]) (out:=([3]:List Int).flatMap intCells) ((dI.one rfl rfl dI.nil)) rfl rfl rfl (λg wd L kb=>?_);have c:=L.obj At2;have e:aP _ (.slice (some ⟨g,0,none⟩) 1 1) intCells 1 [3]:=⟨some ⟨g,0,none⟩,1,rfl,⟨sM,oM⟩,Sep.mg L At0 rfl⟩;refine fQ (vals:=[_]) rfl (yR c (j.aK L.au) e) rfl rfl (λV we u=>?_);obtain⟨rfl,d⟩:=u;have He:=L.aK d;rw[s.all];refine Tz (λwf Hf=>?_);refine V1 ?_;exact⟨_,dD Hf,by rw[ay];exact Bj (by rw[ow,ow,E8]) rfl,Hf.au⟩
 rw[zab Y]at ay;refine dU (λ_:Unit=>[(0,I k),(3,.pointer (some ⟨o,0,none⟩)),(4,.pointer (some ⟨F,0,none⟩)),(6,.func (.func 238) #[] #[.pointer (some ⟨o,0,none⟩)]),(7,.bool (a.null||b.null)),(8,.bool (a.null&&b.null)),(15,I k),(26,.bool (decide (k=11\/k=12)))]) (λ_ D=>Sep w noB [blk F [.int .i64 0,.bool false] 46,blk o [.slice A l.length m] 224] D) ?_ ?_
 .refine Cz (λIi=>?_) (λIi=>?_)
  .refine V0 ?_
   exact aA () ⟨rfl,rfl,rfl,rfl,rfl,rfl,rfl,zay Value.bool (zbg.2 oM),trivial⟩ W
  refine V2 ?_;exact aA () ⟨rfl,rfl,rfl,rfl,rfl,rfl,rfl,zay Value.bool (zbg.2 oM),trivial⟩ W
 intro _ τ wg G;refine Lp ?_;refine Cz (λZ=>?_) (λZ=>?_)
 .rw[zac Z]at ay
  refine V1 ?_;refine Vb (aG ⟨1,a.null||b.null⟩) ?_;refine V2 ?_;refine Vv (ah.fT (i:=0) rfl rfl R Q) (V1 ?_);refine Vv (ah.dY (i:=0) (f:=0) rfl G R C rfl) (j5 G (xs:=[_]) (out:=([a.kind]:List Int).flatMap intCells) ((dI.one rfl rfl dI.nil)) rfl rfl rfl (λg wh M kc=>?_));have c:=M.obj At2;have e:aP _ (.slice (some ⟨g,0,none⟩) 1 1) intCells 1 [a.kind]:=⟨some ⟨g,0,none⟩,1,rfl,⟨sM,oM⟩,Sep.mg M At0 rfl⟩;refine fQ (vals:=[_]) rfl (yR c (j.aK M.au) e) rfl rfl (λV wi u=>?_);obtain⟨rfl,d⟩:=u;have Hi:=M.aK d;rw[s.all];refine Tz (λwj Hj=>?_);refine V1 ?_;exact⟨_,dD Hj,by rw[ay];exact Bj IB rfl,Hj.au⟩
 rw[zab Z]at ay;refine dU (λ_:Unit=>[(0,I k),(3,.pointer (some ⟨o,0,none⟩)),(4,.pointer (some ⟨F,0,none⟩)),(6,.func (.func 238) #[] #[.pointer (some ⟨o,0,none⟩)]),(7,.bool (a.null||b.null)),(8,.bool (a.null&&b.null)),(15,I k),(38,.bool (decide (k=13\/k=14\/k=15)))]) (λ_ D=>Sep w noB [blk F [.int .i64 0,.bool false] 46,blk o [.slice A l.length m] 224] D) ?_ ?_
 .refine Cz (λIk=>?_) (λIk=>?_)
  .refine V0 ?_
   exact aA () ⟨rfl,rfl,rfl,rfl,rfl,rfl,rfl,zay Value.bool (zbg.2 oM),trivial⟩ G
  refine Cz (λIl=>?_) (λIl=>?_)
  .refine V0 ?_
   exact aA () ⟨rfl,rfl,rfl,rfl,rfl,rfl,rfl,zay Value.bool (zbg.2 oM),trivial⟩ G
  refine V2 ?_;exact aA () ⟨rfl,rfl,rfl,rfl,rfl,rfl,rfl,zay Value.bool (zbg.2 oM),trivial⟩ G
 intro _ τ wk Hk;refine Lp ?_;refine Cz (λn=>?_) (λn=>?_)
 .rw[zac n]at ay
  refine V1 ?_;refine Vb (aG ⟨1,a.null||b.null⟩) ?_;refine Mv ?_;refine j5 Hk (xs:=[_]) (out:=([1]:List Int).flatMap intCells) ((dI.one rfl rfl dI.nil)) rfl rfl rfl (λg wl N kd=>?_);have c:=N.obj At2;have e:aP _ (.slice (some ⟨g,0,none⟩) 1 1) intCells 1 [1]:=⟨some ⟨g,0,none⟩,1,rfl,⟨sM,oM⟩,Sep.mg N At0 rfl⟩;refine fQ (vals:=[_]) rfl (yR c (j.aK N.au) e) rfl rfl (λV wm u=>?_);obtain⟨rfl,d⟩:=u;have Hm:=N.aK d;rw[s.all];refine Tz (λwn Hn=>?_);refine V1 ?_;exact⟨_,dD Hn,by rw[ay];exact Bj (by rw[ow,ow,E8]) rfl,Hn.au⟩
 rw[zab n]at ay;refine Cz (λIn=>?_) (λIn=>?_)
 .rw[zac In]at ay
  refine Sr (Vb (aG ⟨1,false⟩) ?_);refine Tz (λwo Ho=>?_);refine V1 ?_;exact⟨_,dD Ho,by rw[ay];exact Pg rfl (λy hy=>by injection hy),Ho.au⟩
 rw[zab In]at ay;refine Cz (λz=>?_) (λz=>?_)
 .rw[zac z]at ay
  refine Dz (λS wp Hp=>?_);refine V5 ?_;refine Gb S 5 (aG ⟨a.kind,a.null&&b.null⟩) ?_;refine V5 ?_;refine Gz S 11 [(6,true),(5,true),(4,true),(3,false),(2,true),(1,true),(0,false)] Hp ([a.kind].flatMap intCells) (h:=λg wq E=>⟨av (av (av ((bE rfl kR (ah.dY (i:=0) (f:=0) rfl E R C rfl) rfl (av (av (jG E (h:=dw)))))))),?_⟩);have c:=E.obj At2;have e:aP _ (.slice (some ⟨g,0,none⟩) 1 1) intCells 1 [a.kind]:=⟨some ⟨g,0,none⟩,1,rfl,⟨sM,oM⟩,Sep.mg E At0 rfl⟩;refine lH S 12 [(5,true),(4,true),(3,false),(2,true),(1,true),(0,false)] (y:=.tmp 58) (f:=238) (fs:=[]) (cs:=[.pointer (some ⟨o,0,none⟩)]) (vals:=[.slice (some ⟨g,0,none⟩) 1 1]) rfl (yR c (j.aK E.au) e) (h:=λV wr u=>?_);obtain⟨rfl,d⟩:=u;have X:=E.aK d;rw[s.all];refine⟨av (av ((bE rfl kR (ah.dY (i:=0) (f:=0) rfl X R C rfl) rfl (av (av (jG X (h:=dw))))))),?_⟩;refine cu S 13 _ X (h:=λws Hs=>⟨sT,?_⟩);refine V1 ?_;exact⟨_,dD Hs,by rw[ay];exact Bj IB rfl,Hs.au⟩
 rw[zab z]at ay;refine V1 ?_;refine Vb (aG ⟨3,a.null||b.null⟩) ?_;refine Mv ?_;refine j5 Hk (xs:=[_,_]) (out:=([4,5]:List Int).flatMap intCells) ((dI.one rfl rfl (dI.one rfl rfl dI.nil))) rfl rfl rfl (λg wt O ke=>?_);have c:=O.obj At2;have e:aP _ (.slice (some ⟨g,0,none⟩) 2 2) intCells 1 [4,5]:=⟨some ⟨g,0,none⟩,2,rfl,⟨sM,oM⟩,Sep.mg O At0 rfl⟩;refine fQ (vals:=[_]) rfl (yR c (j.aK O.au) e) rfl rfl (λV wu u=>?_);obtain⟨rfl,d⟩:=u;have Hu:=O.aK d;rw[s.all];refine Tz (λwv Hv=>?_);refine V1 ?_
 have P:a=b:=by
  rcases s with⟨_,h,_⟩ | ⟨_,h⟩
  .exact h
  omega
 exact⟨_,dD Hv,by rw[ay];exact Bj (by rw[LD,LD,E8];exact zbg.2 (by rw[<-P];simp)) rfl,Hv.au⟩
end
def rD {P:Program} {args:LV} {v:Value} (h:Calls P f args.toArray w λe c=>e=.returned v/\RowKit.Below w.heap.size w c):Rk P f args w v:=
 Calls.mono h λe c g=>by
  obtain⟨rfl,d⟩:=g;exact⟨rfl,aS.of_below d⟩
def lN {args:LV} {v:Value} (h:Calls P f args.toArray w λe c=>e=.returned v/\c=w):aX P f args w λi c=>i=v/\w=c:=
 Calls.mono h λe c g=>by
  obtain⟨rfl,d⟩:=g;exact⟨rfl,d.symm⟩
def nQ (w:Wd):Prop:=Lib.Utf8Tabs 4 5 w
def nQ.aK {w w':Wd} (h:nQ w) (c:aS noB w w'):nQ w':=Utf8Tabs_below h c.below
def isP (k:Int) (c:aF):Bool:=
 if k=1 then decide (c.s=[]/\0<=c.n/\c.n<=1)
 else if k=2 then decide (c.s=[]/\ -2147483648<=c.n/\c.n<=2147483647)
 else if k=3 then decide (c.s=[]/\ -9223372036854775808<=c.n/\c.n<=9223372036854775807)
 else if k=4 then decide (c.n=0/\c.s.length<=1024)&&validD c.s
 else decide (c.n=0/\c.s.length<=1024)
def ajf {c:aF} (e:cB c.n):isP k c=isC k c:=by
 unfold isP isC
 split
 .rfl
 split
 .rfl
 split
 .exact zbg.2 ⟨λh=>h.1,λh=>⟨h,e.1,e.2⟩⟩
 split
 .by_cases d:c.n=0/\c.s.length<=1024
  .rw[zau d,zer]
   cases hv:validD c.s<;>simp[d]
  rw[zam d,zea,eq_comm,decide_eq_false_iff_not];exact λh=>d ⟨h.1,h.2.1⟩
 rfl
def oq (f:FuncId):Value:=.func (.func f) #[] #[]
def kF1:LV:=[oq 291,oq 292,oq 293,oq 294]
def kF2:LV:=[oq 295,oq 296,oq 297,oq 298]
def kF4:LV:=[oq 300,oq 301,oq 302,oq 303]
def kF5:LV:=[oq 304,oq 305,oq 302,oq 303]
def Bl (k:Int):LV:=if k=1 then kF1 else if k=2\/k=3 then kF2 else if k=4 then kF4 else kF5
section
variable {w:Wd}
def J2 (l:L8) (d:l.length<=9223372036854775807) (c:nQ w):Rk prog 231 [str l] w (.bool (validD l)):=by
 have H:=Sep.aI w;refine dL func231 ?_;refine Kz (rD (Tryz.utf8_ValidString ⟨l.toArray⟩ _ (by rw[Mw.size_mk];exact d) c)) (λe h k=>?_);refine V1 ?_;exact⟨rfl,h.au⟩
def aaq (c:aF):Rk prog 290 [agg (aj c)] w (.bool (decide (c.n=0/\c.s.length<=1024))):=by
 have H:=Sep.aI w;refine dL func290 ?_;refine Sr (bK H (cs:=aj c) rfl (h:=λb f e k=>?_));refine Sz (λd=>?_) (λd=>?_)
 .refine V6 ?_
  exact⟨zay Value.bool (zbg.2 oM),e.au⟩
 refine V2 ?_;exact⟨zay Value.bool (by rw[eq_comm,decide_eq_false_iff_not];omega),e.au⟩
def aby {o p:Nat} {E q:Td} {m hi:Int} (c:aF) (i:w.heap[o]? =some (.cells #[I m] E (0,0))) (j:w.heap[p]? =some (.cells #[I hi] q (0,0))):Rk prog 289 [agg (aj c),.pointer (some ⟨o,0,none⟩),.pointer (some ⟨p,0,none⟩)] w (.bool (decide (c.s=[]/\m<=c.n/\c.n<=hi))):=by
 have H:=Sep.aI w;refine uU func289 ?_;refine Sr (bK H (cs:=aj c) rfl (h:=λb l e k=>?_));refine Sz (λd=>?_) (λd=>?_)
 .have g:=d
  refine V2 ?_;refine eP (cs:=[I m]) (e.au.get i id) (h:=?_);refine Sz (λS=>?_) (λS=>?_)
  .have f:=S
   refine V2 ?_;refine eP (cs:=[I hi]) (e.au.get j id) (h:=?_);refine V3 ?_;exact⟨zay Value.bool (zbg.2 ⟨λh=>⟨g,f,h⟩,λh=>h.2.2⟩),e.au⟩
  have f:=S;refine V2 ?_;exact⟨zay Value.bool (Eq.symm (zam λh=>f h.2.1)),e.au⟩
 have g:=d;refine V4 ?_;exact⟨zay Value.bool (Eq.symm (zam λh=>g h.1)),e.au⟩
def qG (l hi:Int):aX prog 288 [I l,I hi] w λv f=>∃p q:Nat,v=.func (.func 289) #[] #[.pointer (some ⟨p,0,none⟩),.pointer (some ⟨q,0,none⟩)]/\cO noB (dx (blk p [I l] 2) (blk q [I hi] 2)) w f:=by
 have H:=Sep.aI w;refine dn func288 ?_;refine Sr (bK H (cs:=[I l]) rfl (h:=λb i c k=>?_));refine bK c (cs:=[I hi]) rfl (h:=λe j d g=>?_);refine V3 ?_;exact⟨b,e,rfl,(d.aJ.aZ).bf⟩
def abz {E:Td} (c:aF) (o:w.heap[b]? =some (.cells #[oq 290] E (0,0))) (m:nQ w):Rk prog 299 [agg (aj c),.pointer (some ⟨b,0,none⟩)] w (.bool (decide (c.n=0/\c.s.length<=1024)&&validD c.s)):=by
 have H:=Sep.aI w;refine dn func299 ?_;refine Sr (bK H (cs:=aj c) rfl (h:=λq u i k=>?_));refine V1 ?_;refine eP (cs:=[oq 290]) (i.au.get o id) (h:=?_);refine V1 ?_;refine fQ (f:=290) (fs:=[]) (cs:=[]) (vals:=[agg (aj c)]) rfl (aaq c) rfl rfl (λv A p=>?_);obtain⟨rfl,e⟩:=p;have j:=i.aK e;refine Mv ?_;refine Sz (λd=>?_) (λd=>?_)
 .have g:=d
  refine Kz (J2 c.s oM (m.aK j.au)) (λC l t=>?_);refine V2 ?_;exact⟨zay Value.bool (by rw[zau g,zer]),l.au⟩
 have g:=d;refine V2 ?_;exact⟨zay Value.bool (by rw[zam g,zea]),j.au⟩
def pF (p q:Nat):Value:=.func (.func 289) #[] #[.pointer (some ⟨p,0,none⟩),.pointer (some ⟨q,0,none⟩)]
def five {g:Type} {l:List g} (h:l.length=5): ∃a b c d e,l=[a,b,c,d,e]:=by
 match l,h with
 | [a,b,c,d,e],_=>exact⟨a,b,c,d,e,rfl⟩
def CO {ρ:Od->Value} {x S n y z:Od} {r Y Z k w:LV} (l:r.length=5) (g:Y.length=5) (j:Z.length=5) (m:k.length=5) (o:w.length=5)
    (h:ρ x=.agg r.toArray) (c:ρ S=.agg Y.toArray) (d:ρ n=.agg Z.toArray) (e:ρ y=.agg k.toArray) (f:ρ z=.agg w.toArray):
    bQ (λi:Nat=>some (i*5,5)) ρ [(1,x),(2,S),(3,n),(4,y),(5,z)] (List.replicate 30 .nilFunc) (List.replicate 5 .nilFunc++r++Y++Z++k++w):=by
  obtain⟨a,b,C,J,O,rfl⟩:=five l;obtain⟨p,u,D,K,R,rfl⟩:=five g;obtain⟨q,v,E,L,V,rfl⟩:=five j;obtain⟨s,H,F,M,W,rfl⟩:=five m;obtain⟨t,A,G,N,X,rfl⟩:=five o;refine bQ.many rfl h (zbd rfl) rfl ?_;refine bQ.many rfl c (zbd rfl) rfl ?_;refine bQ.many rfl d (zbd rfl) rfl ?_;refine bQ.many rfl e (zbd rfl) rfl ?_;refine bQ.many rfl f (zbd rfl) rfl ?_;rfl
def yS (p1 q1 p2 q2 p3 q3 b2:Nat):LV:=List.replicate 5 .nilFunc++(pF p1 q1::kF1)++(pF p2 q2::kF2)++(pF p3 q3::kF2)++(Value.func (.func 299) #[] #[.pointer (some ⟨b2,0,none⟩)]::kF4)++(oq 290::kF5)
def Eh {l hi:Int} {p q:Nat} (d:w.heap[p]? =some (.cells #[I l] 2 (0,0))) (e:w.heap[q]? =some (.cells #[I hi] 2 (0,0))) (f: ∀c,isP k c=decide (c.s=[]/\l<=c.n/\c.n<=hi)):tH w (pF p q) (λc=>agg (aj c)) (isP k):=
 ⟨289,[],[_,_],rfl,eT,λc g h=>by rw[f];exact aby c (h.get d id) (h.get e id)⟩
def abA {E:Td} (e:w.heap[b]? =some (.cells #[oq 290] E (0,0))) (d:nQ w):tH w (.func (.func 299) #[] #[.pointer (some ⟨b,0,none⟩)]) (λc=>agg (aj c)) (isP 4):=
 ⟨299,[],[_],rfl,eT,λc f h=>abz c (h.get e id) (d.aK h)⟩
def abB:tH w (oq 290) (λc=>agg (aj c)) (isP 5):=
 ⟨290,[],[],rfl,eT,λc h _=>aaq c⟩
def GN (k:Int):(Bl k).length=4:=by unfold Bl;(repeat' split)<;>rfl
def abC (k:Int):(Bl k).all Value.oneCell'=true:=by unfold Bl;(repeat' split)<;>rfl
theorem ael (t:bZ) (h1:1<=t.kind) (h5:t.kind<=5) (hT:nQ w):aX Tryz.prog 229 [agg (aG t)] w λv O=>(∃N,v=agg (N::Bl t.kind)/\tH O N (λc=>agg (aj c)) (isP t.kind))/\aS noB w O:=by
 have H:=Sep.aI w;refine pI Tryz.func229 ?_;refine Sr (bK H (cs:=aG t) rfl (h:=λZ w2 H2 k0=>?_));refine Az (λk w4 H4 k3=>?_);refine Az (λE w7 H7 k6=>?_);refine Uz (λw9 H9=>?_);refine Qn (dU (λx:Nat×Nat×Nat×Nat×Nat×Nat×Nat=>[(1,.pointer (some ⟨Z,0,none⟩)),(2,.pointer (some ⟨k,0,none⟩)),(5,.pointer (some ⟨x.1,0,none⟩))]) (λx O=>Sep w noB [blk x.1 (yS x.2.2.2.2.2.1 x.2.2.2.2.2.2 x.2.2.2.1 x.2.2.2.2.1 x.2.1 x.2.2.1 E) 366,blk x.2.1 [I (-9223372036854775808)] 2,blk x.2.2.1 [I 9223372036854775807] 2,blk x.2.2.2.1 [I (-2147483648)] 2,blk x.2.2.2.2.1 [I 2147483647] 2,blk x.2.2.2.2.2.1 [I 0] 2,blk x.2.2.2.2.2.2 [I 1] 2,blk E [oq 290] 300,blk k (List.replicate 5 .nilFunc) 305,blk Z (aG t) 46] O) ?_ ?_)
 .refine Dz (λS wa W=>?_)
  refine V1 ?_;refine Gm S 3 ?_;refine Gm S 6 ?_;refine Gp S 9 rfl rfl (λ_=>(ah.makeFunc rfl rfl)) (Gb S 10 ((Value.func (.func 299) #[] #[.pointer (some ⟨E,0,none⟩)])::kF4) ?_);refine V1 ?_;refine Gb S 12 ((oq 290)::kF5) ?_;refine jw S (e1:=1) (e2:=14) kR ?_ ?_
  .refine pX S 1 [(12,true),(11,false),(10,true),(9,true),(6,true),(3,true)] (y:=.tmp 6) (f:=288) (fs:=[]) (cs:=[]) (vals:=[I 0,I 1]) rfl (qG 0 1) (h:=λJ wb hv=>?_)
   obtain⟨C,D,rfl,j,G,s,g⟩:=hv;have X:=(W.new j s λb m=>(g b m).resolve_left id).bW;refine⟨sL,?_⟩;refine Gb S 2 ((pF C D)::kF1) ?_;refine jw S (e1:=4) (e2:=14) kR ?_ ?_
   .refine pX S 4 [(2,true),(12,true),(11,false),(10,true),(9,true),(6,true)] (y:=.tmp 9) (f:=288) (fs:=[]) (cs:=[]) (vals:=[I (-2147483648),I 2147483647]) rfl (qG (-2147483648) 2147483647) (h:=λJ wc hv=>?_)
    obtain⟨u,A,rfl,j,G,s,g⟩:=hv;have Y:=(X.new j s λb m=>(g b m).resolve_left id).bW;refine⟨sL,?_⟩;refine Gb S 5 ((pF u A)::kF2) ?_;refine jw S (e1:=7) (e2:=14) kR ?_ ?_
    .refine pX S 7 [(5,true),(2,true),(12,true),(11,false),(10,true),(9,true)] (y:=.tmp 12) (f:=288) (fs:=[]) (cs:=[]) (vals:=[I (-9223372036854775808),I 9223372036854775807]) rfl (qG (-9223372036854775808) 9223372036854775807) (h:=λJ wd hv=>?_)
     obtain⟨p,q,rfl,j,G,s,g⟩:=hv;have a:=(Y.new j s λb m=>(g b m).resolve_left id).bW;refine⟨sL,?_⟩;refine Gb S 8 ((pF p q)::kF2) ?_;refine Gp S 13 rfl rfl (λ_=>(ah.Bg (out:=yS C D u A p q E) rfl (CO rfl rfl rfl rfl rfl rfl rfl rfl rfl rfl))) (rX S 14 [(13,true),(8,true),(5,true),(2,true),(12,true),(11,false),(10,true),(9,true)] a (h:=λF we n=>⟨sL,?_⟩));refine cu S 15 _ n (h:=λwf r=>⟨sT,?_⟩);refine V0 ?_;exact aA (F,p,q,u,A,C,D) tR r
    refine jR S 14 [(5,true),(2,true),(12,true),(11,false),(10,true),(9,true),(6,true)] Y (h:=λF wg z=>⟨sL,?_⟩);refine lH S 7 [(5,true),(2,true),(12,true),(11,false),(10,true),(9,true)] (y:=.tmp 12) (f:=288) (fs:=[]) (cs:=[]) (vals:=[I (-9223372036854775808),I 9223372036854775807]) rfl (qG (-9223372036854775808) 9223372036854775807) (h:=λJ wh hv=>?_);obtain⟨p,q,rfl,j,G,s,g⟩:=hv;have P:=(z.new j s λb m=>(g b m).resolve_left id).bW;refine⟨sL,?_⟩;refine Gb S 8 ((pF p q)::kF2) ?_;refine Gp S 13 rfl rfl (λ_=>(ah.Bg (out:=yS C D u A p q E) rfl (CO rfl rfl rfl rfl rfl rfl rfl rfl rfl rfl))) (cu S 15 _ P (h:=λwi Q=>⟨sT,?_⟩));refine V0 ?_;exact aA (F,p,q,u,A,C,D) tR Q.aR
   refine jR S 14 [(2,true),(12,true),(11,false),(10,true),(9,true),(6,true),(3,true)] X (h:=λF wj T=>⟨sL,?_⟩);refine lH S 4 [(2,true),(12,true),(11,false),(10,true),(9,true),(6,true)] (y:=.tmp 9) (f:=288) (fs:=[]) (cs:=[]) (vals:=[I (-2147483648),I 2147483647]) rfl (qG (-2147483648) 2147483647) (h:=λJ wk hv=>?_);obtain⟨u,A,rfl,j,G,s,g⟩:=hv;have Hk:=(T.new j s λb m=>(g b m).resolve_left id).bW;refine⟨sL,?_⟩;refine Gb S 5 ((pF u A)::kF2) ?_;refine lH S 7 [(5,true),(2,true),(12,true),(11,false),(10,true),(9,true)] (y:=.tmp 12) (f:=288) (fs:=[]) (cs:=[]) (vals:=[I (-9223372036854775808),I 9223372036854775807]) rfl (qG (-9223372036854775808) 9223372036854775807) (h:=λJ wl hv=>?_);obtain⟨p,q,rfl,j,G,s,g⟩:=hv;have Hl:=(Hk.new j s λb m=>(g b m).resolve_left id).bW;refine⟨sL,?_⟩;refine Gb S 8 ((pF p q)::kF2) ?_;refine Gp S 13 rfl rfl (λ_=>(ah.Bg (out:=yS C D u A p q E) rfl (CO rfl rfl rfl rfl rfl rfl rfl rfl rfl rfl))) (cu S 15 _ Hl (h:=λwm Hm=>⟨sT,?_⟩));refine V0 ?_;exact aA (F,p,q,u,A,C,D) tR Hm.eZ
  refine jR S 14 [(12,true),(11,false),(10,true),(9,true),(6,true),(3,true),(0,true)] W (h:=λF wn Hn=>⟨sL,?_⟩);refine lH S 1 [(12,true),(11,false),(10,true),(9,true),(6,true),(3,true)] (y:=.tmp 6) (f:=288) (fs:=[]) (cs:=[]) (vals:=[I 0,I 1]) rfl (qG 0 1) (h:=λJ wo hv=>?_);obtain⟨C,D,rfl,j,G,s,g⟩:=hv;have Ho:=(Hn.new j s λb m=>(g b m).resolve_left id).bW;refine⟨sL,?_⟩;refine Gb S 2 ((pF C D)::kF1) ?_;refine lH S 4 [(2,true),(12,true),(11,false),(10,true),(9,true),(6,true)] (y:=.tmp 9) (f:=288) (fs:=[]) (cs:=[]) (vals:=[I (-2147483648),I 2147483647]) rfl (qG (-2147483648) 2147483647) (h:=λJ wp hv=>?_);obtain⟨u,A,rfl,j,G,s,g⟩:=hv;have Hp:=(Ho.new j s λb m=>(g b m).resolve_left id).bW;refine⟨sL,?_⟩;refine Gb S 5 ((pF u A)::kF2) ?_;refine lH S 7 [(5,true),(2,true),(12,true),(11,false),(10,true),(9,true)] (y:=.tmp 12) (f:=288) (fs:=[]) (cs:=[]) (vals:=[I (-9223372036854775808),I 9223372036854775807]) rfl (qG (-9223372036854775808) 9223372036854775807) (h:=λJ wq hv=>?_);obtain⟨p,q,rfl,j,G,s,g⟩:=hv;have Hq:=(Hp.new j s λb m=>(g b m).resolve_left id).bW;refine⟨sL,?_⟩;refine Gb S 8 ((pF p q)::kF2) ?_;refine Gp S 13 rfl rfl (λ_=>(ah.Bg (out:=yS C D u A p q E) rfl (CO rfl rfl rfl rfl rfl rfl rfl rfl rfl rfl))) (cu S 15 _ Hq (h:=λwr Hr=>⟨sT,?_⟩));refine V0 ?_;exact aA (F,p,q,u,A,C,D) tR Hr.jq
 rintro⟨F,p,q,u,A,C,D⟩ τ ws R;dsimp only at R;refine Lp ?_;refine Sr ?_;have V:((t.kind.toNat:Nat):Int)=t.kind:=zcv oM
 obtain⟨l,M,K,L⟩: ∃l:Value,((t.kind=1/\l=pF C D)\/(t.kind=2/\l=pF u A)\/(t.kind=3/\l=pF p q)\/(t.kind=4/\l=Value.func (.func 299) #[] #[.pointer (some ⟨E,0,none⟩)])\/(t.kind=5/\l=oq 290))/\l.oneCell'=true/\((yS C D u A p q E).drop (0+t.kind.toNat*5)).take 5=l::Bl t.kind:=by
  rcases (by omega :t.kind=1\/t.kind=2\/t.kind=3\/t.kind=4\/t.kind=5)with e | e | e | e | e<;>rw[e]
  .exact⟨_,.inl ⟨rfl,rfl⟩,rfl,rfl⟩
  .exact⟨_,.inr (.inl ⟨rfl,rfl⟩),rfl,rfl⟩
  .exact⟨_,.inr (.inr (.inl ⟨rfl,rfl⟩)),rfl,rfl⟩
  .exact⟨_,.inr (.inr (.inr (.inl ⟨rfl,rfl⟩))),rfl,rfl⟩
  exact⟨_,.inr (.inr (.inr (.inr ⟨rfl,rfl⟩))),rfl,rfl⟩
 refine Vf ?_;refine V1 ?_;refine Vv (ah.BD (i:=t.kind.toNat) rfl (by rw[V];rfl) oM) ?_;refine FD (us:=l::Bl t.kind) (o:=0+t.kind.toNat*5) (b:=F) R (hx:=by rw[<-Addr.add_lit];rfl) (hat:=by exact aT) (hu:=L) (hk:=by rw[zat,GN]) (h:=?_);refine iF R (us:=l::Bl t.kind) (hk:=by rw[zat,GN]) (hv:=by rw[List.all_cons,K,abC];rfl) (h:=λwt d=>?_);refine V0 ?_;refine⟨_,gT d (hk:=by rw[zat,GN]),⟨l,rfl,?_⟩,d.au⟩
 rcases M with⟨e,rfl⟩ | ⟨e,rfl⟩ | ⟨e,rfl⟩ | ⟨e,rfl⟩ | ⟨e,rfl⟩<;>rw[e]
 .exact Eh kK kK (λc=>rfl)
 .exact Eh kK kK (λc=>rfl)
 .exact Eh kK kK (λc=>rfl)
 .exact abA (by first | exact d.obj At7 | exact d.obj At6 | exact d.obj At5 | exact d.obj At4) (hT.aK d.au)
 exact abB
end
attribute [local irreducible] mX isP Bl
section
variable {w:Wd}
def aem {t:bZ}:mX t=true↔1<=t.kind/\t.kind<=5:=by unfold mX;exact decide_eq_true_iff
def uo (t:bZ) (c:aF) (R:cB c.n) (N:nQ w):Rk Tryz.prog 147 [agg (aG t),agg (aj c)] w (I (fB t c)):=by
 have H:=Sep.aI w;obtain⟨r,ay⟩: ∃r,r=fB t c:=⟨_,rfl⟩;rw[<-ay];unfold fB at ay;refine dn Tryz.func147 ?_;refine Sr (bK H (cs:=aG t) rfl (h:=λb z J k=>?_));refine bK J (cs:=aj c) rfl (h:=λZ P Y a=>?_);refine Kz (zN t) (λQ o x=>?_);refine O2 ?_;refine Qn (Cd rfl (λq=>?_) (λq=>?_))
 .have m:mX t=false:=by have h:=q;revert h;cases mX t<;>simp
  rw[zac m]at ay;refine V1 ?_;exact⟨by rw[ay];rfl,o.au⟩
 have m:mX t=true:=by have h:=q;revert h;cases mX t<;>simp
 rw[zab (by rw[m];simp)]at ay;obtain⟨L,M⟩:=aem.1 m;refine V3 ?_;refine eO (t:=12) rfl (λu=>?_) (λu=>?_)
 .have d:c.null=true:=u
  rw[zac d]at ay;refine V4 ?_;refine eO (t:=16) rfl (λv=>?_) (λv=>?_)
  .have g:t.null=false:=by have h:=v;revert h;cases t.null<;>simp
   rw[zab (by rw[g];simp)]at ay;refine V4 ?_;exact⟨by rw[ay];rfl,o.au⟩
  have g:t.null=true:=by have h:=v;revert h;cases t.null<;>simp
  refine V1 ?_;refine Vb (aj cK) ?_;refine On (Vv (ah.af8 (enc:=aj) _ _ rfl rfl) (Cz (λj=>?_) (λj=>?_)))
  .rw[zab (λh=>j h.2)]at ay
   refine Sk (fC (zay Value.bool (zau j)) ?_);refine V1 ?_;exact⟨by rw[ay];rfl,o.au⟩
  rw[zac ⟨g,zcd.1 j⟩]at ay;refine Dz (λS T K=>?_);refine V4 ?_;refine qQ (t:=25) rfl (λF=>?_) (λF=>?_)
  .exact zas F (by rw[d];simp)
  refine Qe S 4 rfl rfl kR ?_;refine Qe S 7 rfl rfl kR ?_;refine Qe S 5 rfl rfl kR ?_;refine Qe S 6 rfl rfl kR ?_;refine Qe S 8 rfl rfl kR ?_;refine V3 ?_;exact⟨by rw[ay];rfl,K.au⟩
 have d: ¬c.null=true:=by have h:=u;simpa using h
 rw[zab d,<-ajf R]at ay;refine Dz (λl wb p=>?_);refine V4 ?_;refine qQ (t:=25) rfl (λG=>?_) (λG=>?_)
 .refine V1 ?_
  refine gY l 7 p (h:=?_);refine p8 l 5 [(7,false)] rfl kR (ael t L M (N.aK p.au)) rfl kR kR (λX wc C=>?_);obtain⟨⟨W,rfl,V⟩,A⟩:=C;obtain⟨f,fs,cs,rfl,O,e⟩:=V;have D:=p.aK A;refine⟨(bE rfl kR (ah.JZ rfl (D.obj At0) (us:=aj c) rfl rfl) rfl (dw)),?_⟩;refine V1 ?_;refine lH l 8 _ (y:=.tmp 28) (f:=f) (fs:=fs) (cs:=cs) (vals:=[agg (aj c)]) rfl (e c _ (aS.refl _ _)) (h:=λX wd C=>?_);obtain⟨rfl,i⟩:=C;have E:=D.aK i;refine⟨sT,?_⟩;refine O3 ?_;refine fZ l kR ?_;refine ig (Cd rfl (λs=>?_) (λs=>?_))
  .rw[zab (by have h:=s;revert h;cases isP t.kind c<;>simp)]at ay
   refine V1 ?_;exact⟨by rw[ay];rfl,E.au⟩
  rw[zac (by have h:=s;revert h;cases isP t.kind c<;>simp)]at ay;refine V1 ?_;exact⟨by rw[ay];rfl,E.au⟩
 exact zas (show c.null=true by have h:=G;revert h;cases c.null<;>simp) d
end
end
end
section
section gives
variable {P:Program} {ρ:Od->Value} {ty:Td} {w:Wd} {x y:Od} {T U:Td} {k:IntKind} {a b:Int}
def ah.andNot (h:ρ x=.int k a) (c:ρ y=.int k b):ah P ρ (.binOp .andNot T x y U) ty w (.int k (bits .andNot k a b)) w:=.bin h c (λ_ _=>rfl) (by rw[binOp_andNot];rfl)
end gives
end
section
attribute [local irreducible] FW FL FG FGn jX lg gD l7 Qfn ah
def UH {y:Nat} (e:y<18446744073709551616):y&&& 18446744073709551614=0↔y<=1:=by
 constructor
 .intro h
  have c:=Nat.and_div_two (a:=y) (b:=18446744073709551614);rw[h,show 18446744073709551614/2=2^63-1 from dC,Nat.and_two_pow_sub_one_eq_mod]at c;have d:y/2%2^63=y/2:=Nat.mod_eq_of_lt oM;omega
 intro h
 rcases (by omega :y=0\/y=1)with rfl | rfl<;>decide
def aar {n:Int} (f:cB n):bits .andNot .i64 n 1=0↔0<=n/\n<=1:=by
 obtain⟨i,j⟩:=f;show IntKind.i64.wrap ((BitVec.ofInt 64 n&&& ~~~BitVec.ofInt 64 1).toNat:Int)=0↔_
 have e:(BitVec.ofInt 64 1).toNat=1:=dC;have d:(BitVec.ofInt 64 n).toNat=(n%18446744073709551616).toNat:=BitVec.toNat_ofInt n;have c:(n%18446744073709551616).toNat<18446744073709551616:=oM;rw[BitVec.toNat_and,BitVec.toNat_not,e,d,show 2^64-1-1=18446744073709551614 from dC,IntKind.wrap_i64];have g:(n%18446744073709551616).toNat&&& 18446744073709551614<=(n%18446744073709551616).toNat:=Nat.and_le_left;have key:=UH c;constructor
 .intro h
  have :(n%18446744073709551616).toNat&&& 18446744073709551614=0:=by omega
  have:=key.1 this;omega
 intro h;rw[key.2 oM]
 decide
def LG {s:L8}:fB ⟨4,false⟩ ⟨false,0,s⟩=0↔s.length<=1024/\validD s=true:=by
 have e:fB ⟨4,false⟩ ⟨false,0,s⟩=if decide ((0:Int)=0/\s.length<=1024/\validD s=true)=true then 0 else 90:=rfl
 rw[e]
 by_cases h:s.length<=1024/\validD s=true
 .rw[zac (zau ⟨rfl,h⟩)];exact⟨λ_=>h,λ_=>rfl⟩
 rw[zab (by rw[decide_eq_true_eq];exact λe=>h e.2)];exact⟨λe=>zas e dC,λe=>zas e h⟩
def J3 {s:L8}:fB ⟨5,false⟩ ⟨false,0,s⟩=0↔s.length<=1024:=by
 have e:fB ⟨5,false⟩ ⟨false,0,s⟩=if decide ((0:Int)=0/\s.length<=1024)=true then 0 else 90:=rfl
 rw[e]
 by_cases h:s.length<=1024
 .rw[zac (zau ⟨rfl,h⟩)];exact⟨λ_=>h,λ_=>rfl⟩
 rw[zab (by rw[decide_eq_true_eq];exact λe=>h e.2)];exact⟨λe=>zas e dC,λe=>zas e h⟩
def aiL:cB 0:=⟨dC,dC⟩
def UJ:oN k≠[]↔k=1\/(3<=k/\k<=5):=by
 unfold oN
 split
 .simp[*]
 split
 .simp[*]
 split
 .simp[*]
 split
 .simp[*]
 simp;omega
attribute [local irreducible] fB oN
section
variable {w:Wd}
def X3 (x:bH) (D:cB x.n) (C:nQ w):Rk Tryz.prog 89 [agg (aQ x)] w (.bool (eX x)):=by
 have H:=Sep.aI w;obtain⟨r,ay⟩: ∃r,r=eX x:=⟨_,rfl⟩;rw[<-ay];unfold eX at ay;refine dL Tryz.func89 ?_;refine Sr (bK H (cs:=aQ x) rfl (h:=λK R J L=>?_));refine Dz (λE V d=>?_);refine Cz (λk=>?_) (λk=>?_)
 .rw[zac k]at ay
  refine Sz (λi=>?_) (λi=>?_)
  .have c:=i
   refine Sz (λj=>?_) (λj=>?_)
   .have e:=j
    refine V5 ?_;exact⟨zay Value.bool (by rw[ay];exact zbg.2 ⟨λh=>⟨c,e,h⟩,λh=>h.2.2⟩),d.au⟩
   have e:=j;refine V2 ?_;exact⟨zay Value.bool (by rw[ay];exact Eq.symm (zam λh=>e h.2.1)),d.au⟩
  have c:=i;refine V4 ?_;exact⟨zay Value.bool kV,d.au⟩
 rw[zab k]at ay;refine Cz (λS=>?_) (λS=>?_)
 .rw[zac S]at ay
  refine V2 ?_;exact⟨by rw[ay];rfl,d.au⟩
 rw[zab S]at ay;refine Cz (λa=>?_) (λa=>?_)
 .rw[zac a]at ay
  refine Sz (λl=>?_) (λl=>?_)
  .have c:=l
   refine V2 ?_;refine Vv (ah.andNot rfl rfl) (V3 ?_);exact⟨zay Value.bool (by rw[ay];exact zbg.2 ⟨λh=>⟨c,(aar D).1 h⟩,λh=>(aar D).2 h.2⟩),d.au⟩
  have c:=l;refine V2 ?_;exact⟨zay Value.bool kV,d.au⟩
 rw[zab a]at ay;refine Cz (λb=>?_) (λb=>?_)
 .rw[zac b]at ay
  refine Sz (λm=>?_) (λm=>?_)
  .have c:=m
   refine On (Vb (aG ⟨4,false⟩) ?_);refine V2 ?_;refine Vb (aj ⟨false,0,x.s⟩) ?_;refine On (Kz (uo ⟨4,false⟩ ⟨false,0,x.s⟩ aiL (C.aK d.au)) (λW F M=>?_));refine V3 ?_;exact⟨zay Value.bool (by rw[ay];exact zbg.2 ⟨λh=>⟨c,LG.1 h⟩,λh=>LG.2 h.2⟩),F.au⟩
  have c:=m;refine V2 ?_;exact⟨zay Value.bool kV,d.au⟩
 rw[zab b]at ay;refine Cz (λf=>?_) (λf=>?_)
 .rw[zac f]at ay
  refine Sz (λo=>?_) (λo=>?_)
  .have c:=o
   refine On (Vb (aG ⟨5,false⟩) ?_);refine V2 ?_;refine Vb (aj ⟨false,0,x.s⟩) ?_;refine On (Kz (uo ⟨5,false⟩ ⟨false,0,x.s⟩ aiL (C.aK d.au)) (λX G N=>?_));refine V3 ?_;exact⟨zay Value.bool (by rw[ay];exact zbg.2 ⟨λh=>⟨c,J3.1 h⟩,λh=>J3.2 h.2⟩),G.au⟩
  have c:=o;refine V2 ?_;exact⟨zay Value.bool kV,d.au⟩
 rw[zab f]at ay;refine Cz (λg=>?_) (λg=>?_)
 .rw[zac g]at ay
  refine Sz (λp=>?_) (λp=>?_)
  .have c:=p
   refine Kz (RG x.n) (λY A O=>?_);refine Sz (λq=>?_) (λq=>?_)
   .have e:=q
    refine V7 ?_;exact⟨zay Value.bool (by rw[ay];exact zbg.2 ⟨λ_=>⟨c,UJ.1 e⟩,λ_=>trivial⟩),A.au⟩
   have e:=q;refine V2 ?_;exact⟨zay Value.bool (by rw[ay];exact Eq.symm (zam λh=>e (UJ.2 h.2))),A.au⟩
  have c:=p;refine V4 ?_;exact⟨zay Value.bool kV,d.au⟩
 rw[zab g]at ay;refine Sz (λSh=>?_) (λSh=>?_)
 .have c:=Sh
  refine Sz (λt=>?_) (λt=>?_)
  .have e:=t
   refine Sz (λu=>?_) (λu=>?_)
   .have v:=u
    refine V3 ?_;exact⟨zay Value.bool (by rw[ay];exact zbg.2 ⟨λh=>⟨c,e,h,v⟩,λh=>h.2.2.1⟩),d.au⟩
   have v:=u;refine V2 ?_;exact⟨zay Value.bool (by rw[ay];exact Eq.symm (zam λh=>v h.2.2.2)),d.au⟩
  have e:=t;refine V4 ?_;exact⟨zay Value.bool (by rw[ay];exact Eq.symm (zam λh=>e h.2.1)),d.au⟩
 have c:=Sh;refine V6 ?_;exact⟨zay Value.bool kV,d.au⟩
end
end
end Go.Proofs.Mw
