/-
 A stack's take and put,walked;how many values a step takes;words of nothing;may a type be.
-/
import Derived.Test.YtjcgliljofbopaaGreatDoorNv10
import Derived.Test.YtjcgliljofbopaaGreatDoorShelf
set_option linter.all false
set_option maxRecDepth 4000
namespace Go.Proofs.Mw
variable {A:OA} {c n:Nat}
open Go.RowKit
section gives
variable {P:Program} {ρ:Od->Value} {ty:Td} {w:Wd} {x y z:Od}
def Gives.Vh {t e:Td} [ht:cO P t e] {size bytes:Nat} [hc:Cells P e size bytes] {h m:Nat} {k j:IntKind} (hx:ρ x=.slice A n c) (hy:ρ y=.int k h) (hz:ρ z=.int j m) (rG:h<=m) (Yb:m<=c):Gives P ρ (.slice t x none (some y) (some z)) ty w (.slice A h m) w:=λ_ _ _ _=>by
 obtain⟨i,hi,qx⟩:=zbc.1 hc.size;have e1:(0:Int)<=(h:Int)/\(h:Int)<=(m:Int):=oM;have e2:(0:Int)<=(m:Int)/\(m:Int)<=(c:Int):=oM;have e3:A.map (λx:Addr=>x.add 0)=A:=by cases A<;>simp[Addr.add_zero']
 simp[execOp,hx,hy,hz,Instr.sliceAt,run_underlying ht.und,Instr.slice,Instr.sliceBounds,Instr.sliceBound,asIntOf,e1,e2,sizeOf,typeInfo,hi,e3,rG,Yb]
end gives
variable {E b:Nat} {F:NP}
open Go.Lib
section
attribute [local irreducible] FW FL FG FGn jK jO fI lU Qfn Gives
section
variable {w:Wd}
def RV {k:Nat} (hp:(blk b [.slice A n c] E).ok F w) (hk:k<=n) (hnc:n<=c) (hc:n<=9223372036854775807):
    aR Tryz.prog 81 [.pointer (some ⟨b,0,none⟩),I k] w λv w'=>v=.tuple #[.slice (if c=n-k then A else A.map (·.add ((n-k)*2))) k (c-(n-k)),.bool true]/\Turn F (blk b [.slice A (n-k) (n-k)] E) w w':=by
  have H:=Sep.bR hp;refine bQ Tryz.func81 ?_;refine Zb8 ?_;refine Vc ((n-k:Nat):Int) ?_;refine Cz (λS=>?_) (λS=>?_)
  . exact zar S oM
  refine Zb5 ?_;refine Vv (Gives.sliceFrom rfl rfl oM) ?_;rw[show n-(n-k)=k from oM];refine Zb8 ?_;refine Vv (Gives.Vh rfl rfl rfl oM oM) (Uz (λ_ S=>?_));refine Zb3 ?_;exact⟨rfl,S.turn⟩
def Mc {k:Nat} (hp:(blk b [.slice A n c] E).ok F w) (hk:n<k) (hk2:k<=1000000):
    aR Tryz.prog 81 [.pointer (some ⟨b,0,none⟩),I k] w λv w'=>v=.tuple #[.slice none 0 0,.bool false]/\Turn F (blk b [.slice A n c] E) w w':=by
  have H:=Sep.bR hp;refine bQ Tryz.func81 ?_;refine Cz (λS=>?_) (λS=>?_)
  . refine Zb2 ?_
    exact⟨rfl,H.turn⟩
  exact zar (show((n:Int)-k)<0 from oM) S
def Vi {l news:List bM} {vn:Value} (hp:(blk b [.slice A l.length l.length] E).ok F w) (hr:Rd w A aD 2 l) (hn:aJ w vn aD 2 news) (iN:0<news.length) (hlen:l.length+news.length<=1000000):
    aR Tryz.prog 86 [.pointer (some ⟨b,0,none⟩),vn] w λv w'=>∃x,v=.tuple #[]/\True/\Turn F (star (blk b [x] E) (aY 65 2 aD x (l++news))) w w':=by
  obtain⟨B,m,rfl,⟨hm,om⟩,hB⟩:=hn;have H:=Sep.bR hp;refine bQ Tryz.func86 ?_;refine Zb6 ?_;refine Oq H hr hB iN (by unfold maxLen;omega) oM (cells_one (λ_=>rfl) _) (h:=?_);intro v2 k k S;obtain⟨B2,c2,rfl,S,hB2⟩:=Sep.bJ k At0;refine Uz (λ_ S=>?_);refine Zb0 ?_;exact⟨_,rfl,trivial,(S.aG.aQ).turn⟩
def RX {k:Nat} (hp:(blk b [.slice A n c] E).ok F w) (hk:k<=n) (hnc:n<=c) (hc:n<=9223372036854775807):
    aR Tryz.prog 92 [.pointer (some ⟨b,0,none⟩),I k] w λv w'=>v=.tuple #[.slice (if c=n-k then A else A.map (·.add ((n-k)*3))) k (c-(n-k)),.bool true]/\Turn F (blk b [.slice A (n-k) (n-k)] E) w w':=by
  have H:=Sep.bR hp;refine bQ Tryz.func92 ?_;refine Zb8 ?_;refine Vc ((n-k:Nat):Int) ?_;refine Cz (λS=>?_) (λS=>?_)
  . exact zar S oM
  refine Zb5 ?_;refine Vv (Gives.sliceFrom rfl rfl oM) ?_;rw[show n-(n-k)=k from oM];refine Zb8 ?_;refine Vv (Gives.Vh rfl rfl rfl oM oM) (Uz (λ_ S=>?_));refine Zb3 ?_;exact⟨rfl,S.turn⟩
def vY {l news:List aC} {vn:Value} (hp:(blk b [.slice A l.length l.length] E).ok F w) (hr:Rd w A ah 3 l) (hn:aJ w vn ah 3 news) (iN:0<news.length) (hlen:l.length+news.length<=1000000):
    aR Tryz.prog 94 [.pointer (some ⟨b,0,none⟩),vn] w λv w'=>∃x,v=.tuple #[]/\True/\Turn F (star (blk b [x] E) (aY 41 3 ah x (l++news))) w w':=by
  obtain⟨B,m,rfl,⟨hm,om⟩,hB⟩:=hn;have H:=Sep.bR hp;refine bQ Tryz.func94 ?_;refine Zb6 ?_;refine Oq H hr hB iN (by unfold maxLen;omega) oM (cells_one (λ_=>rfl) _) (h:=?_);intro v2 k k S;obtain⟨B2,c2,rfl,S,hB2⟩:=Sep.bJ k At0;refine Uz (λ_ S=>?_);refine Zb0 ?_;exact⟨_,rfl,trivial,(S.aG.aQ).turn⟩
def aa7 (k:Int):Rk Tryz.prog 82 [I k] w (I (dA k)):=by
 have H:=Sep.aF w;obtain⟨res,ak⟩: ∃res,res=dA k:=⟨_,rfl⟩;rw[<-ak];unfold dA at ak;refine cK Tryz.func82 ?_;refine Cz (λS=>?_) (λS=>?_)
 .rw[zac S]at ak
  refine Zb1 ?_;exact⟨by rw[ak];rfl,H.kept⟩
 rw[zab S]at ak;refine Sz (λS=>?_) (λS=>?_)
 .refine Zb7 ?_
  exact⟨by rw[ak,zac oM];rfl,H.kept⟩
 refine Sz (λS=>?_) (λS=>?_)
 .refine Zb5 ?_
  exact⟨by rw[ak,zac oM];rfl,H.kept⟩
 refine Sz (λS=>?_) (λS=>?_)
 .refine Zb3 ?_
  exact⟨by rw[ak,zac oM];rfl,H.kept⟩
 refine Cz (λS=>?_) (λS=>?_)
 .refine Zb1 ?_
  exact⟨by rw[ak,zac oM];rfl,H.kept⟩
 rw[zab oM]at ak;refine Zb1 ?_;exact⟨by rw[ak];rfl,H.kept⟩
def RY (k:Int):Rk Tryz.prog 128 [I k] w (str (oh k)):=by
 have H:=Sep.aF w;obtain⟨res,ak⟩: ∃res,res=oh k:=⟨_,rfl⟩;rw[<-ak];unfold oh at ak;refine cK Tryz.func128 ?_;refine Cz (λS=>?_) (λS=>?_)
 .rw[zac S]at ak
  refine Zb1 ?_;exact⟨by rw[ak];rfl,H.kept⟩
 rw[zab S]at ak;refine Cz (λS=>?_) (λS=>?_)
 .rw[zac S]at ak
  refine Zb1 ?_;exact⟨by rw[ak];rfl,H.kept⟩
 rw[zab S]at ak;refine Cz (λS=>?_) (λS=>?_)
 .rw[zac S]at ak
  refine Zb1 ?_;exact⟨by rw[ak];rfl,H.kept⟩
 rw[zab S]at ak;refine Cz (λS=>?_) (λS=>?_)
 .rw[zac S]at ak
  refine Zb1 ?_;exact⟨by rw[ak];rfl,H.kept⟩
 rw[zab S]at ak;refine Zb1 ?_;exact⟨by rw[ak];rfl,H.kept⟩
def zu (t:bM):Rk Tryz.prog 87 [agg (aD t)] w (.bool (nZ t)):=by
 have H:=Sep.aF w;refine cK Tryz.func87 ?_;refine Sr (bB H (cs:=aD t) rfl (h:=λb0 _ k _=>?_));refine Sz (λS=>?_) (λS=>?_)
 .refine Zb5 ?_
  exact⟨by unfold nZ;exact zaw Value.bool (zbf.2 oM),k.kept⟩
 refine Zb2 ?_;exact⟨by unfold nZ;rw[zal oM];rfl,k.kept⟩
end
end
section gives
variable {P:Program} {ρ:Od->Value} {ty:Td} {w:Wd}
def Gives.AX {T e:Td} {size bytes:Nat} [ha:zl P T n e] [hc:Cells P e size bytes] {z:Value} [hz:Zero P T z] {zs:LV} {parts:List (Nat×Od)} {out:LV} (D5:z.cells=zs.toArray) (h:Fills (λi:Nat=>some (i*size,size)) ρ parts zs out):
    Gives P ρ (.build T parts.toArray) ty w (.agg out.toArray) w:=λ_ _ _ _=>by
  obtain⟨i,hi,qx⟩:=zbc.1 hc.size;simp only[Prod.mk.injEq]at qx;have hf:=FY h;simp only[execOp,Instr.build,zbi,hz.run,zam,run_underlying ha.und,sizeOf,typeInfo,hi,D5,zbl,zcc,qx.1];have hf':Instr.fill (λi=>some (i*size,size)) zs.toArray (List.map (λx=>(x.fst,ρ x.snd)) parts)=some out.toArray:=hf;simp[hi,qx.1,hf']
end gives
section
attribute [local irreducible] FW FL FG FGn jK jO fI lU Qfn Gives
section
section
variable {w:Wd}
def afq {E:Td} (c:bY) (n:Int) (hb:w.heap[b]? =some (.cells #[I n] E (0,0))):Rk Tryz.prog 144 [agg (aP c),.pointer (some ⟨b,0,none⟩)] w (.bool (decide (c.id=n))):=by
 have H:=Sep.aF w;refine bQ Tryz.func144 ?_;refine Sr (bB H (cs:=aP c) rfl (h:=λb0 _ k _=>?_));refine Zb3 ?_;refine dM (cs:=[I n]) (k.kept.get hb id) (h:=?_);refine Zb2 ?_;exact⟨rfl,k.kept⟩
def find_ok {cols:List bY} {vc:Value} (n:Int) (hc:aJ w vc aP 7 cols):Rk Tryz.prog 95 [vc,I n] w (I (zq (og cols n))):=by
 have H:=Sep.aF w;refine bQ Tryz.func95 ?_;refine Sr (bB H (h:=λb1 _ k _=>?_));refine Zb3 ?_;have D6:=k.obj At0;have hpr:sJ _ (.func (.func 144) #[] #[.pointer (some ⟨b1,0,none⟩)]) (λc=>agg (aP c)) (λc=>decide (c.id=n)):=⟨144,[],[.pointer (some ⟨b1,0,none⟩)],rfl,eT,λc w'' hk=>afq c n (hk.get D6 id)⟩;refine Kz (Va (hc.keep k.kept) hpr) (λ_ k _=>?_);refine Zb1 ?_;exact⟨rfl,k.kept⟩
attribute [local irreducible] nZ
def alv {cols:List bY} {vc:Value} (x:bI) (hc:aJ w vc aP 7 cols) (h1:1<=x.kind) (h6:x.kind<=6):Rk Tryz.prog 84 [vc,agg (aM x)] w (.tuple #[agg (aD ((qL cols x).getD gT)),.bool (qL cols x).isSome]):=by
  have OM:=hc;obtain⟨A,m,rfl,⟨hm,om⟩,hA⟩:=hc;have H:=Sep.aF w;obtain⟨res,ak⟩: ∃res,res=qL cols x:=⟨_,rfl⟩;rw[<-ak];unfold qL at ak;refine sQ Tryz.func84 ?_;refine Sr (bB H (cs:=aM x) rfl (h:=λb0 _ _ _=>?_));refine Az (λb3 _ _ _=>?_);refine Zb1 ?_;refine Vv (Gives.AX (out:=[I 0,I 0,I 3,I 1,I 4,I 5]) rfl (Fills.one rfl rfl rfl sM rfl (Fills.one rfl rfl rfl sM rfl (Fills.one rfl rfl rfl sM rfl (Fills.one rfl rfl rfl sM rfl Fills.nil))))) (Az (λbk _ _ _=>?_));refine Tz (λ_ k=>?_);refine Cz (λS=>?_) (λS=>?_)
  . rw[zab oM,zab oM,zab oM,zab oM,zab oM]at ak
    refine Zb2 ?_;refine Vb (aD ⟨x.n,true⟩) ?_;refine Tz (λ_ S=>?_);refine Zb1 ?_;exact⟨_,bE S,by rw[ak];rfl,S.kept⟩
  refine Cz (λS=>?_) (λS=>?_)
  . rw[zac S]at ak
    refine Kz (find_ok x.n (OM.keep k.kept)) (λ_ a _=>?_);refine Sz (λb=>?_) (λb=>?_)
    . have l9:og cols x.n=none:=by
        cases hf:og cols x.n with
        | none=>rfl
        | some i=>
          rw[hf]at b;exact zar (show((i:Nat):Int)<0 from b) oM
      rw[l9]at ak;refine Zb1 ?_;refine Vb (aD gT) ?_;refine Tz (λ_ d=>?_);refine Zb1 ?_;exact⟨_,bE d,by rw[ak];rfl,d.kept⟩
    obtain⟨i,hf⟩: ∃i,og cols x.n=some i:=by
      cases hf:og cols x.n with
      | none=>rw[hf]at b;exact zar (show(-1:Int)<0 from dC) b
      | some i=>exact⟨i,rfl⟩
    have aS:=Gi hf;obtain⟨c,hcg⟩:=get_some (l:=cols) (i:=i) aS;rw[hf]at ak;dsimp only at ak;rw[jr hcg]at ak;refine Zb2 ?_;rw[show(zq (og cols x.n))=((i:Nat):Int) by rw[hf];rfl];refine Vv (Gives.fF rfl rfl hA aS) (Zb1 ?_);refine Vv (Gives.EB (us:=aD c.type) rfl a hA hcg rfl rfl) (On ?_);refine Kz (zu c.type) (λ_ d _=>?_);refine Za2 ?_;refine Qn (Cd rfl (λb=>?_) (λb=>?_))
    . rw[zac (by first | exact b | (have h:=b;revert h;cases nZ c.type<;>simp))]at ak
      refine Sr (Vb (aD gT) ?_);refine Tz (λ_ a=>?_);refine Zb1 ?_;exact⟨_,bE a,by rw[ak];rfl,a.kept⟩
    rw[zab (by have h:=b;revert h;cases nZ c.type<;>simp)]at ak;refine Zb2 ?_;refine Vv (Gives.fF rfl rfl hA aS) (Zb1 ?_);refine Vv (Gives.EB (us:=aD c.type) rfl d hA hcg rfl rfl) (Az (λb69 _ _ _=>?_));refine Tz (λ_ _=>?_);refine Cz (λa=>?_) (λa=>?_)
    . rw[zac a]at ak
      refine Uz (λ_ _=>?_);refine Tz (λ_ b=>?_);refine Zb1 ?_;exact⟨_,bE b,by rw[ak];rfl,b.kept⟩
    rw[zab a]at ak;refine Tz (λ_ b=>?_);refine Zb1 ?_;exact⟨_,bE b,by rw[ak];rfl,b.kept⟩
  rw[zab S]at ak;have htn:((x.kind.toNat:Nat):Int)=x.kind:=zcp oM
  obtain⟨kk,bZ,hg⟩: ∃kk:Int,res=some ⟨kk,false⟩/\[(0:Int),0,3,1,4,5][x.kind.toNat]? =some kk:=by
    rcases (by omega :x.kind=2\/x.kind=3\/x.kind=4\/x.kind=5)with e | e | e | e<;>rw[e]at ak |- <;>exact⟨_,ak,rfl⟩
  have hR:Rd _ (some ⟨bk,0,none⟩) intCells 1 [(0:Int),0,3,1,4,5]:=Sep.lK k At0 rfl;refine Zb2 ?_;refine Vv (Gives.Br (i:=x.kind.toNat) rfl (by rw[htn];rfl) oM) ?_;refine Vv (Gives.Om (f:=0) (i:=x.kind.toNat) rfl hR hg rfl) (Vb (aD ⟨kk,false⟩) ?_);refine Tz (λ_ b=>?_);refine Zb1 ?_;exact⟨_,bE b,by rw[bZ];rfl,b.kept⟩
end
end
end
variable {P:Program} {r:Option Nat} {n:Nat} {ops:AO} {Q:Post} {σ:St} {w w0:Wd} {S:NP} {rs:List HP} {ty:Td} {pos:String} {after:Array Edge} {guard:Option (Nat×Bool)} {lv:List Bool} {pd:LNB}
variable {f:FuncId} {xs:List Od} {ats:Array Td} {R:Value->Wd->Prop}
def anD {dst:Option Nat} {y:Od} {fs cs:LV} {vals:LV} {K:St->Wd->Prop} (hy:evF σ y=.func (.func f) fs.toArray cs.toArray) (hc:aR P f (fs++vals++cs) w R) (hv:xs.map (evF σ)=vals)
    (h: ∀v w',R v w'->K (rP σ dst v) w') (he:qm P f:=by exact eT):M9 P σ w ⟨dst,.call {callee:=.value y,args:=xs.toArray,argTypes:=ats},ty,pos,after,guard⟩ K:=by
  unfold M9
  have e:(execOp (evF σ) ⟨dst,.call {callee:=.value y,args:=xs.toArray,argTypes:=ats},ty,pos,after,guard⟩).run P w=.ok (.enter f (fs++vals++cs).toArray) w:=by
    simp[execOp,resolve,hy,Deferred.ofValue,invoke,hv];rw[<-he.run (fs++(vals++cs)).toArray w]
  rw[e];refine Calls.mono hc λen w'' hr=>?_;cases en with
  | returned v=>exact h v w'' hr
  | _=>exact hr.elim
def jU (eZ:dS n ops=true) (e:Nat) (pd':LNB) {d:Nat} {y:Od} {f:FuncId} {fs cs:LV} {vals:LV}
    (hy:evF σ y=.func (.func f) fs.toArray cs.toArray) (hc:aR P f (fs++vals++cs) w R)
    (ho:ops[e]? =some ⟨some d,.call {callee:=.value y,args:=xs.toArray,argTypes:=ats},ty,pos,after,guard⟩:=by exact rfl)
    (hw:Region.wanted ⟨some d,.call {callee:=.value y,args:=xs.toArray,argTypes:=ats},ty,pos,after,guard⟩ (bU ops σ)=true:=by kernel_rfl) (hv:xs.map (evF σ)=vals:=by exact rfl) (dX:fu ops lv (pd.map (·.1)) e=true:=by kernel_rfl)
    (oo:pd.filter (λp=> !((above ops e).contains p.1))=pd':=by exact pD) (h: ∀v w',R v w'->jm P ops (upd σ d v) w' pd'/\FG P r n ops Q (lv.set e true) pd' (upd σ d v) w') (he:qm P f:=by exact eT):FG P r n ops Q lv pd σ w:=
  CV eZ ho dX hw pd' oo (anD hy hc hv h)
def pK (eZ:dS n ops=true) (e:Nat) (pd':LNB) {d:Nat} {y:Od} {f:FuncId} {fs cs:LV} {vals:LV}
    (hy:evF σ y=.func (.func f) fs.toArray cs.toArray) (hc:aR P f (fs++vals++cs) w R)
    (ho:ops[e]? =some ⟨some d,.call {callee:=.value y,args:=xs.toArray,argTypes:=ats},ty,pos,after,guard⟩:=by exact rfl)
    (hw:Region.wanted ⟨some d,.call {callee:=.value y,args:=xs.toArray,argTypes:=ats},ty,pos,after,guard⟩ (bU ops σ)=true:=by kernel_rfl) (hv:xs.map (evF σ)=vals:=by exact rfl) (dX:nX ops lv (pd.map (·.1)) e=true:=by kernel_rfl)
    (oo:pd.filter (λp=> !((above ops e).contains p.1))=pd':=by exact pD) (h: ∀v w',R v w'->jm P ops (upd σ d v) w' pd'/\FG P r n ops Q (lv.set e true) pd' (upd σ d v) w') (he:qm P f:=by exact eT):pI P r n ops Q lv pd σ w e:=
  NT eZ ho dX hw pd' oo (anD hy hc hv h)
variable {k:Int} {l:List bM}
open Go.Proofs.Tryz
section
attribute [local irreducible] FW FL FG FGn jK jO fI lU Qfn Gives
section
def AY {α:Type} (k:Int) (l:List α) (a b:α):Prop:=(l=[a]/\a=b/\(k=10\/k=15\/k=16\/k=18))\/(l=[a,b]/\k≠10/\k≠15/\k≠16/\k≠18)
def AY.any {α:Type} {l:List α} {a b:α} (h:AY k l a b) (p:α->Bool):l.any p=(p a||p b):=by
 rcases h with⟨rfl,rfl,_⟩ | ⟨rfl,_⟩
 .simp
 simp
def AY.get {α:Type} {l:List α} {a b:α} (h:AY k l a b):l[0]? =some a/\l[l.length-1]? =some b/\0<l.length:=by
 rcases h with⟨rfl,rfl,_⟩ | ⟨rfl,_⟩
 .exact⟨rfl,rfl,sM⟩
 exact⟨rfl,rfl,sM⟩
def within (want:List Int) (t:bM):Bool:=want.any λy=>decide (t.kind=y)
section
variable {w:Wd}
def acB (t:bM):Rk prog 133 [agg (aD t)] w (.bool t.null):=by
 have H:=Sep.aF w;refine cK func133 ?_;refine Sr (bB H (cs:=aD t) rfl (h:=λb0 _ k _=>?_));refine Zb4 ?_;exact⟨rfl,k.kept⟩
def acC (t:bM):Rk prog 134 [agg (aD t)] w (.bool (!t.null)):=by
 have H:=Sep.aF w;refine cK func134 ?_;refine Sr (bB H (cs:=aD t) rfl (h:=λb0 _ k _=>?_));refine Zb3 ?_;refine Vv (Gives.not rfl) (Zb1 ?_);exact⟨rfl,k.kept⟩
def YL {E:Td} {want:List Int} {vw:Value} (t:bM) (hb:w.heap[b]? =some (.cells #[vw] E (0,0))) (hw:aJ w vw intCells 1 want):Rk prog 131 [agg (aD t),.pointer (some ⟨b,0,none⟩)] w (.bool (!within want t)):=by
 have H:=Sep.aF w;refine bQ func131 ?_;refine Sr (bB H (cs:=aD t) rfl (h:=λb0 _ k _=>?_));refine Zb1 ?_;refine dM (cs:=[vw]) (k.kept.get hb id) (h:=?_);refine Kz (YK t.kind (hw.keep k.kept)) (λ_ k _=>?_);refine Vv (Gives.not rfl) (Zb1 ?_);exact⟨rfl,k.kept⟩
def yw {E:Td} {want:List Int} {vw vl:Value} (hb:w.heap[b]? =some (.cells #[vl] E (0,0))) (hl:aJ w vl aD 2 l) (hw:aJ w vw intCells 1 want):Rk prog 129 [vw,.pointer (some ⟨b,0,none⟩)] w (.bool (!(l.any λt=> !within want t))):=by
 have H:=Sep.aF w;have hwc:vw.cells= #[vw]:=by obtain⟨A,c,rfl,_⟩:=hw;rfl
 refine bQ func129 ?_;refine Sr (bB H (cs:=[vw]) rfl hwc (h:=λb0 _ k _=>?_));refine Zb1 ?_;refine dM (cs:=[vl]) (k.kept.get hb id) (h:=?_);refine Zb1 ?_;have D6:=k.obj At0;have hpr:sJ _ (.func (.func 131) #[] #[.pointer (some ⟨b0,0,none⟩)]) (λt=>agg (aD t)) (λt=> !within want t):=⟨131,[],[.pointer (some ⟨b0,0,none⟩)],rfl,eT,λt w'' hk=>YL t (hk.get D6 id) ((hw.keep k.kept).keep hk)⟩;refine Kz (AV (hl.keep k.kept) hpr) (λ_ k _=>?_);refine Vv (Gives.not rfl) (Zb1 ?_);exact⟨rfl,k.kept⟩
end
def AY.all {a b:bM} (h:AY k l a b) (want:List Int):(!(l.any λt=> !within want t))=(within want a&&within want b):=by
 rw[h.any];cases within want a<;>cases within want b<;>rfl
def PY {res:Option bM} {t:bM} {ok:Bool} (h1:ok=res.isSome) (h2: ∀y,res=some y->t=y): ∃t',Value.tuple #[agg (aD t),.bool ok]=.tuple #[agg (aD t'),.bool res.isSome]/\∀x,res=some x->t'=x:=
 ⟨t,by rw[h1],h2⟩
def AZ {P:Prop} [Decidable P] {t u:bM} {ok:Bool} (h1:ok=decide P) (h2:t=u): ∃t',Value.tuple #[agg (aD t),.bool ok]=.tuple #[agg (aD t'),.bool (if P then some u else none).isSome]/\∀x,(if P then some u else none)=some x->t'=x:=by
 refine PY ?_ λy hy=>?_
 .rw[h1];by_cases hp:P
  .rw[zac hp,zap hp];rfl
  rw[zab hp,zal hp];rfl
 by_cases hp:P
 .rw[zac hp]at hy;injection hy with hy;rw[h2,hy]
 rw[zab hp]at hy;cases hy
def nQ (k:Int) (t:bM):within [k] t=decide (t.kind=k):=by simp[within]
def Md (j k:Int) (t:bM):within [j,k] t=decide (t.kind=j\/t.kind=k):=by simp[within]
def E8 (P Q:Prop) [Decidable P] [Decidable Q]:(decide P&&decide Q)=decide (P/\Q):=by
 by_cases h1:P<;>by_cases h2:Q<;>simp[h1,h2]
section
variable {w:Wd}
def afr {a b:bM} {vl:Value} (hl:aJ w vl aD 2 l) (hs:AY k l a b) (h7:7<=k) (h18:k<=18):aR Tryz.prog 85 [I k,vl] w λv w'=>(∃t,v=.tuple #[agg (aD t),.bool (vG k a b).isSome]/\∀x,vG k a b=some x->t=x)/\Kept noB w w':=by
 have EM:=hl;obtain⟨A,m,rfl,⟨hm,om⟩,hA⟩:=hl;have H:=Sep.aF w;obtain⟨hga,_,Gx⟩:=hs.get;obtain⟨res,ak⟩: ∃res,res=vG k a b:=⟨_,rfl⟩;rw[<-ak];unfold vG at ak;have KU:=hs.any λt=>t.null
 have amt:(!(l.any λt=> !t.null))=(a.null&&b.null):=by
  rw[hs.any];cases a.null<;>cases b.null<;>rfl
 refine sQ Tryz.func85 ?_;refine Sr (bB H (cs:=[.slice A l.length m]) rfl (h:=λb0 _ _ _=>?_));refine Az (λb1 _ S _=>?_);refine Kz (AV (p:=λt=>t.null) (EM.keep S.kept) ⟨133,[],[],rfl,eT,λt w'' _=>acB t⟩) (λ_ S _=>?_);rw[KU];refine Kz (AV (p:=λt=> !t.null) (EM.keep S.kept) ⟨134,[],[],rfl,eT,λt w'' _=>acC t⟩) (λ_ S _=>?_);refine Vv (Gives.not rfl) ?_;rw[amt];refine Za2 ?_;refine Qn (uz (dD (λ_:Unit=>[(0,I k),(3,.pointer (some ⟨b0,0,none⟩)),(4,.pointer (some ⟨b1,0,none⟩)),(6,.func (.func 129) #[] #[.pointer (some ⟨b0,0,none⟩)]),(7,.bool (a.null||b.null)),(8,.bool (a.null&&b.null)),(15,I k),(16,.bool (decide (k=7\/k=8\/k=9\/k=10)))]) (λ_ w'=>Sep w noB [blk b1 [.int .i64 0,.bool false] 65,blk b0 [.slice A l.length m] 155] w') ?_ ?_))
 .refine Cz (λc=>?_) (λc=>?_)
  .refine Zb0 ?_
   exact au () ⟨rfl,rfl,rfl,rfl,rfl,rfl,rfl,zaw Value.bool (zbf.2 oM),trivial⟩ S
  refine Cz (λc=>?_) (λc=>?_)
  .refine Zb0 ?_
   exact au () ⟨rfl,rfl,rfl,rfl,rfl,rfl,rfl,zaw Value.bool (zbf.2 oM),trivial⟩ S
  refine Cz (λc=>?_) (λc=>?_)
  .refine Zb0 ?_
   exact au () ⟨rfl,rfl,rfl,rfl,rfl,rfl,rfl,zaw Value.bool (zbf.2 oM),trivial⟩ S
  refine Zb2 ?_;exact au () ⟨rfl,rfl,rfl,rfl,rfl,rfl,rfl,zaw Value.bool (zbf.2 oM),trivial⟩ S
 intro _ τ c c;refine Lp ?_;refine Cz (λS=>?_) (λS=>?_)
 .rw[zac S]at ak
  refine Zb1 ?_;refine Vb (aD ⟨3,a.null||b.null⟩) ?_;refine Mv ?_;refine nD c (xs:=[_]) (out:=([3]:List Int).flatMap intCells) ((dZ.one rfl rfl dZ.nil)) rfl rfl rfl (λbw _ d _=>?_);have D6:=d.obj At2;have Yc:aJ _ (.slice (some ⟨bw,0,none⟩) 1 1) intCells 1 [3]:=⟨some ⟨bw,0,none⟩,1,rfl,⟨sM,oM⟩,Sep.lK d At0 rfl⟩;refine eP (vals:=[_]) rfl (yw D6 (EM.keep d.kept) Yc) rfl rfl (λv' _ hv=>?_);obtain⟨rfl,bZ⟩:=hv;have e:=d.keep bZ;rw[hs.all];refine Tz (λ_ e=>?_);refine Zb1 ?_;exact⟨_,bE e,by rw[ak];exact AZ (by rw[nQ,nQ,E8]) rfl,e.kept⟩
 rw[zab S]at ak;refine dD (λ_:Unit=>[(0,I k),(3,.pointer (some ⟨b0,0,none⟩)),(4,.pointer (some ⟨b1,0,none⟩)),(6,.func (.func 129) #[] #[.pointer (some ⟨b0,0,none⟩)]),(7,.bool (a.null||b.null)),(8,.bool (a.null&&b.null)),(15,I k),(26,.bool (decide (k=11\/k=12)))]) (λ_ w'=>Sep w noB [blk b1 [.int .i64 0,.bool false] 65,blk b0 [.slice A l.length m] 155] w') ?_ ?_
 .refine Cz (λe=>?_) (λe=>?_)
  .refine Zb0 ?_
   exact au () ⟨rfl,rfl,rfl,rfl,rfl,rfl,rfl,zaw Value.bool (zbf.2 oM),trivial⟩ c
  refine Zb2 ?_;exact au () ⟨rfl,rfl,rfl,rfl,rfl,rfl,rfl,zaw Value.bool (zbf.2 oM),trivial⟩ c
 intro _ τ e e;refine Lp ?_;refine Cz (λc=>?_) (λc=>?_)
 .rw[zac c]at ak
  refine Zb1 ?_;refine Vb (aD ⟨1,a.null||b.null⟩) ?_;refine Zb2 ?_;refine Vv (Gives.fF (i:=0) rfl rfl hA Gx) (Zb1 ?_);refine Vv (Gives.dz (i:=0) (f:=0) rfl e hA hga rfl) (nD e (xs:=[_]) (out:=([a.kind]:List Int).flatMap intCells) ((dZ.one rfl rfl dZ.nil)) rfl rfl rfl (λbw _ S _=>?_));have D6:=S.obj At2;have Yc:aJ _ (.slice (some ⟨bw,0,none⟩) 1 1) intCells 1 [a.kind]:=⟨some ⟨bw,0,none⟩,1,rfl,⟨sM,oM⟩,Sep.lK S At0 rfl⟩;refine eP (vals:=[_]) rfl (yw D6 (EM.keep S.kept) Yc) rfl rfl (λv' _ hv=>?_);obtain⟨rfl,bZ⟩:=hv;have d:=S.keep bZ;rw[hs.all];refine Tz (λ_ d=>?_);refine Zb1 ?_;exact⟨_,bE d,by rw[ak];exact AZ (by rw[nQ,nQ,E8];exact zbf.2 ⟨λh=>h.2.symm,λh=>⟨rfl,h.symm⟩⟩) rfl,d.kept⟩
 rw[zab c]at ak;refine dD (λ_:Unit=>[(0,I k),(3,.pointer (some ⟨b0,0,none⟩)),(4,.pointer (some ⟨b1,0,none⟩)),(6,.func (.func 129) #[] #[.pointer (some ⟨b0,0,none⟩)]),(7,.bool (a.null||b.null)),(8,.bool (a.null&&b.null)),(15,I k),(38,.bool (decide (k=13\/k=14\/k=15)))]) (λ_ w'=>Sep w noB [blk b1 [.int .i64 0,.bool false] 65,blk b0 [.slice A l.length m] 155] w') ?_ ?_
 .refine Cz (λd=>?_) (λd=>?_)
  .refine Zb0 ?_
   exact au () ⟨rfl,rfl,rfl,rfl,rfl,rfl,rfl,zaw Value.bool (zbf.2 oM),trivial⟩ e
  refine Cz (λd=>?_) (λd=>?_)
  .refine Zb0 ?_
   exact au () ⟨rfl,rfl,rfl,rfl,rfl,rfl,rfl,zaw Value.bool (zbf.2 oM),trivial⟩ e
  refine Zb2 ?_;exact au () ⟨rfl,rfl,rfl,rfl,rfl,rfl,rfl,zaw Value.bool (zbf.2 oM),trivial⟩ e
 intro _ τ d d;refine Lp ?_;refine Cz (λe=>?_) (λe=>?_)
 .rw[zac e]at ak
  refine Zb1 ?_;refine Vb (aD ⟨1,a.null||b.null⟩) ?_;refine Mv ?_;refine nD d (xs:=[_]) (out:=([1]:List Int).flatMap intCells) ((dZ.one rfl rfl dZ.nil)) rfl rfl rfl (λbw _ c _=>?_);have D6:=c.obj At2;have Yc:aJ _ (.slice (some ⟨bw,0,none⟩) 1 1) intCells 1 [1]:=⟨some ⟨bw,0,none⟩,1,rfl,⟨sM,oM⟩,Sep.lK c At0 rfl⟩;refine eP (vals:=[_]) rfl (yw D6 (EM.keep c.kept) Yc) rfl rfl (λv' _ hv=>?_);obtain⟨rfl,bZ⟩:=hv;have S:=c.keep bZ;rw[hs.all];refine Tz (λ_ S=>?_);refine Zb1 ?_;exact⟨_,bE S,by rw[ak];exact AZ (by rw[nQ,nQ,E8]) rfl,S.kept⟩
 rw[zab e]at ak;refine Cz (λS=>?_) (λS=>?_)
 .rw[zac S]at ak
  refine Sr (Vb (aD ⟨1,false⟩) ?_);refine Tz (λ_ e=>?_);refine Zb1 ?_;exact⟨_,bE e,by rw[ak];exact PY rfl (λy hy=>by injection hy),e.kept⟩
 rw[zab S]at ak;refine Cz (λe=>?_) (λe=>?_)
 .rw[zac e]at ak
  refine Dz (λS _ c=>?_);refine Zb5 ?_;refine Gb S 5 (aD ⟨a.kind,a.null&&b.null⟩) ?_;refine Zb5 ?_;refine Gz S 11 [(6,true),(5,true),(4,true),(3,false),(2,true),(1,true),(0,false)] c ([a.kind].flatMap intCells) (h:=λbw _ c=>⟨av (av (av ((bK rfl kR (Gives.dz (i:=0) (f:=0) rfl c hA hga rfl) rfl (av (av (iI c (h:=eu)))))))),?_⟩);have D6:=c.obj At2;have Yc:aJ _ (.slice (some ⟨bw,0,none⟩) 1 1) intCells 1 [a.kind]:=⟨some ⟨bw,0,none⟩,1,rfl,⟨sM,oM⟩,Sep.lK c At0 rfl⟩;refine jU S 12 [(5,true),(4,true),(3,false),(2,true),(1,true),(0,false)] (y:=.tmp 58) (f:=129) (fs:=[]) (cs:=[.pointer (some ⟨b0,0,none⟩)]) (vals:=[.slice (some ⟨bw,0,none⟩) 1 1]) rfl (yw D6 (EM.keep c.kept) Yc) (h:=λv' _ hv=>?_);obtain⟨rfl,bZ⟩:=hv;have g:=c.keep bZ;rw[hs.all];refine⟨av (av ((bK rfl kR (Gives.dz (i:=0) (f:=0) rfl g hA hga rfl) rfl (av (av (iI g (h:=eu))))))),?_⟩;refine bN S 13 _ g (h:=λ_ g=>⟨sT,?_⟩);refine Zb1 ?_;exact⟨_,bE g,by rw[ak];exact AZ (by rw[nQ,nQ,E8];exact zbf.2 ⟨λh=>h.2.symm,λh=>⟨rfl,h.symm⟩⟩) rfl,g.kept⟩
 rw[zab e]at ak;refine Zb1 ?_;refine Vb (aD ⟨3,a.null||b.null⟩) ?_;refine Mv ?_;refine nD d (xs:=[_,_]) (out:=([4,5]:List Int).flatMap intCells) ((dZ.one rfl rfl (dZ.one rfl rfl dZ.nil))) rfl rfl rfl (λbw _ g _=>?_);have D6:=g.obj At2;have Yc:aJ _ (.slice (some ⟨bw,0,none⟩) 2 2) intCells 1 [4,5]:=⟨some ⟨bw,0,none⟩,2,rfl,⟨sM,oM⟩,Sep.lK g At0 rfl⟩;refine eP (vals:=[_]) rfl (yw D6 (EM.keep g.kept) Yc) rfl rfl (λv' _ hv=>?_);obtain⟨rfl,bZ⟩:=hv;have e:=g.keep bZ;rw[hs.all];refine Tz (λ_ e=>?_);refine Zb1 ?_
 have Oy:a=b:=by
  rcases hs with⟨_,h,_⟩ | ⟨_,h⟩
  .exact h
  omega
 exact⟨_,bE e,by rw[ak];exact AZ (by rw[Md,Md,E8];exact zbf.2 (by rw[<-Oy];simp)) rfl,e.kept⟩
end
def qZ {P:Program} {args:LV} {v:Value} (h:Calls P f args.toArray w λe w'=>e=.returned v/\RowKit.Below w.heap.size w w'):Rk P f args w v:=
 Calls.mono h λe w' he=>by
  obtain⟨rfl,hb⟩:=he;exact⟨rfl,Kept.of_below hb⟩
def j6 {args:LV} {v:Value} (h:Calls P f args.toArray w λe w'=>e=.returned v/\w'=w):aR P f args w λv' w'=>v'=v/\w=w':=
 Calls.mono h λe w' he=>by
  obtain⟨rfl,hb⟩:=he;exact⟨rfl,hb.symm⟩
def mX (w:Wd):Prop:=Lib.Utf8Tabs 4 5 w
def mX.keep {w w':Wd} (h:mX w) (hk:Kept noB w w'):mX w':=Utf8Tabs_below h hk.below
def isP (k:Int) (c:aC):Bool:=
 if k=1 then decide (c.s=[]/\0<=c.n/\c.n<=1)
 else if k=2 then decide (c.s=[]/\ -2147483648<=c.n/\c.n<=2147483647)
 else if k=3 then decide (c.s=[]/\ -9223372036854775808<=c.n/\c.n<=9223372036854775807)
 else if k=4 then decide (c.n=0/\c.s.length<=1024)&&validD c.s
 else decide (c.n=0/\c.s.length<=1024)
def alx {c:aC} (hf:fits c.n):isP k c=isC k c:=by
 unfold isP isC
 split
 .rfl
 split
 .rfl
 split
 .exact zbf.2 ⟨λh=>h.1,λh=>⟨h,hf.1,hf.2⟩⟩
 split
 .by_cases h1:c.n=0/\c.s.length<=1024
  .rw[zap h1,zel]
   cases hv:validD c.s<;>simp[h1]
  rw[zal h1,zdw,eq_comm,decide_eq_false_iff_not];exact λh=>h1 ⟨h.1,h.2.1⟩
 rfl
def nK (f:FuncId):Value:=.func (.func f) #[] #[]
def kF1:LV:=[nK 200,nK 201,nK 202,nK 203]
def kF2:LV:=[nK 204,nK 205,nK 206,nK 207]
def kF4:LV:=[nK 210,nK 211,nK 212,nK 213]
def kF5:LV:=[nK 214,nK 215,nK 212,nK 213]
def A8 (k:Int):LV:=if k=1 then kF1 else if k=2\/k=3 then kF2 else if k=4 then kF4 else kF5
section
variable {w:Wd}
def JW (l:L8) (hl:l.length<=9223372036854775807) (hT:mX w):Rk prog 209 [str l] w (.bool (validD l)):=by
 have H:=Sep.aF w;refine cK func209 ?_;refine Kz (qZ (Tryz.utf8_ValidString ⟨l.toArray⟩ _ (by rw[Mw.size_mk];exact hl) hT)) (λ_ k _=>?_);refine Zb1 ?_;exact⟨rfl,k.kept⟩
def aa8 (c:aC):Rk prog 199 [agg (ah c)] w (.bool (decide (c.n=0/\c.s.length<=1024))):=by
 have H:=Sep.aF w;refine cK func199 ?_;refine Sr (bB H (cs:=ah c) rfl (h:=λb0 _ k _=>?_));refine Sz (λS=>?_) (λS=>?_)
 .refine Zb6 ?_
  exact⟨zaw Value.bool (zbf.2 oM),k.kept⟩
 refine Zb2 ?_;exact⟨zaw Value.bool (by rw[eq_comm,decide_eq_false_iff_not];omega),k.kept⟩
def acD {b1 b2:Nat} {E1 E2:Td} {lo hi:Int} (c:aC) (h1:w.heap[b1]? =some (.cells #[I lo] E1 (0,0))) (h2:w.heap[b2]? =some (.cells #[I hi] E2 (0,0))):Rk prog 198 [agg (ah c),.pointer (some ⟨b1,0,none⟩),.pointer (some ⟨b2,0,none⟩)] w (.bool (decide (c.s=[]/\lo<=c.n/\c.n<=hi))):=by
 have H:=Sep.aF w;refine AP func198 ?_;refine Sr (bB H (cs:=ah c) rfl (h:=λb0 _ k _=>?_));refine Sz (λS=>?_) (λS=>?_)
 .have hs:=S
  refine Zb2 ?_;refine dM (cs:=[I lo]) (k.kept.get h1 id) (h:=?_);refine Sz (λa=>?_) (λa=>?_)
  .have hn:=a
   refine Zb2 ?_;refine dM (cs:=[I hi]) (k.kept.get h2 id) (h:=?_);refine Zb3 ?_;exact⟨zaw Value.bool (zbf.2 ⟨λh=>⟨hs,hn,h⟩,λh=>h.2.2⟩),k.kept⟩
  have hn:=a;refine Zb2 ?_;exact⟨zaw Value.bool (Eq.symm (zal λh=>hn h.2.1)),k.kept⟩
 have hs:=S;refine Zb4 ?_;exact⟨zaw Value.bool (Eq.symm (zal λh=>hs h.1)),k.kept⟩
def qA (lo hi:Int):aR prog 197 [I lo,I hi] w λv w'=>∃p q:Nat,v=.func (.func 198) #[] #[.pointer (some ⟨p,0,none⟩),.pointer (some ⟨q,0,none⟩)]/\Turn noB (star (blk p [I lo] 2) (blk q [I hi] 2)) w w':=by
 have H:=Sep.aF w;refine bQ func197 ?_;refine Sr (bB H (cs:=[I lo]) rfl (h:=λb0 _ k _=>?_));refine bB k (cs:=[I hi]) rfl (h:=λb1 _ k _=>?_);refine Zb3 ?_;exact⟨b0,b1,rfl,(k.aG.aQ).turn⟩
def acE {E:Td} (c:aC) (hb:w.heap[b]? =some (.cells #[nK 199] E (0,0))) (hT:mX w):Rk prog 208 [agg (ah c),.pointer (some ⟨b,0,none⟩)] w (.bool (decide (c.n=0/\c.s.length<=1024)&&validD c.s)):=by
 have H:=Sep.aF w;refine bQ func208 ?_;refine Sr (bB H (cs:=ah c) rfl (h:=λb0 _ k _=>?_));refine Zb1 ?_;refine dM (cs:=[nK 199]) (k.kept.get hb id) (h:=?_);refine Zb1 ?_;refine eP (f:=199) (fs:=[]) (cs:=[]) (vals:=[agg (ah c)]) rfl (aa8 c) rfl rfl (λv' _ hv=>?_);obtain⟨rfl,bZ⟩:=hv;have S:=k.keep bZ;refine Mv ?_;refine Sz (λk=>?_) (λk=>?_)
 .have hs:=k
  refine Kz (JW c.s oM (hT.keep S.kept)) (λ_ I _=>?_);refine Zb2 ?_;exact⟨zaw Value.bool (by rw[zap hs,zel]),I.kept⟩
 have hs:=k;refine Zb2 ?_;exact⟨zaw Value.bool (by rw[zal hs,zdw]),S.kept⟩
def oQ (p q:Nat):Value:=.func (.func 198) #[] #[.pointer (some ⟨p,0,none⟩),.pointer (some ⟨q,0,none⟩)]
def five {α:Type} {l:List α} (h:l.length=5): ∃a b c d e,l=[a,b,c,d,e]:=by
 match l,h with
 | [a,b,c,d,e],_=>exact⟨a,b,c,d,e,rfl⟩
def CB {ρ:Od->Value} {x1 x2 x3 x4 x5:Od} {r1 r2 r3 r4 r5:LV} (l1:r1.length=5) (l2:r2.length=5) (l3:r3.length=5) (l4:r4.length=5) (l5:r5.length=5)
    (h1:ρ x1=.agg r1.toArray) (h2:ρ x2=.agg r2.toArray) (h3:ρ x3=.agg r3.toArray) (h4:ρ x4=.agg r4.toArray) (h5:ρ x5=.agg r5.toArray):
    Fills (λi:Nat=>some (i*5,5)) ρ [(1,x1),(2,x2),(3,x3),(4,x4),(5,x5)] (List.replicate 30 .nilFunc) (List.replicate 5 .nilFunc++r1++r2++r3++r4++r5):=by
  obtain⟨a1,b1,c1,d1,e1,rfl⟩:=five l1;obtain⟨a2,b2,c2,d2,e2,rfl⟩:=five l2;obtain⟨a3,b3,c3,d3,e3,rfl⟩:=five l3;obtain⟨a4,b4,c4,d4,e4,rfl⟩:=five l4;obtain⟨a5,b5,c5,d5,e5,rfl⟩:=five l5;refine Fills.many rfl h1 (zbe rfl) rfl ?_;refine Fills.many rfl h2 (zbe rfl) rfl ?_;refine Fills.many rfl h3 (zbe rfl) rfl ?_;refine Fills.many rfl h4 (zbe rfl) rfl ?_;refine Fills.many rfl h5 (zbe rfl) rfl ?_;rfl
def yx (p1 q1 p2 q2 p3 q3 b2:Nat):LV:=List.replicate 5 .nilFunc++(oQ p1 q1::kF1)++(oQ p2 q2::kF2)++(oQ p3 q3::kF2)++(Value.func (.func 208) #[] #[.pointer (some ⟨b2,0,none⟩)]::kF4)++(nK 199::kF5)
def Ed {lo hi:Int} {p q:Nat} (h1:w.heap[p]? =some (.cells #[I lo] 2 (0,0))) (h2:w.heap[q]? =some (.cells #[I hi] 2 (0,0))) (hp: ∀c,isP k c=decide (c.s=[]/\lo<=c.n/\c.n<=hi)):sJ w (oQ p q) (λc=>agg (ah c)) (isP k):=
 ⟨198,[],[_,_],rfl,eT,λc w'' hk=>by rw[hp];exact acD c (hk.get h1 id) (hk.get h2 id)⟩
def acF {E:Td} (hb:w.heap[b]? =some (.cells #[nK 199] E (0,0))) (hT:mX w):sJ w (.func (.func 208) #[] #[.pointer (some ⟨b,0,none⟩)]) (λc=>agg (ah c)) (isP 4):=
 ⟨208,[],[_],rfl,eT,λc w'' hk=>acE c (hk.get hb id) (hT.keep hk)⟩
def acG:sJ w (nK 199) (λc=>agg (ah c)) (isP 5):=
 ⟨199,[],[],rfl,eT,λc w'' _=>aa8 c⟩
def GQ (k:Int):(A8 k).length=4:=by unfold A8;(repeat' split)<;>rfl
def acH (k:Int):(A8 k).all Value.oneCell'=true:=by unfold A8;(repeat' split)<;>rfl
def afs (t:bM) (h1:1<=t.kind) (h5:t.kind<=5) (hT:mX w):aR Tryz.prog 145 [agg (aD t)] w λv w'=>(∃isF,v=agg (isF::A8 t.kind)/\sJ w' isF (λc=>agg (ah c)) (isP t.kind))/\Kept noB w w':=by
 have H:=Sep.aF w;refine oV Tryz.func145 ?_;refine Sr (bB H (cs:=aD t) rfl (h:=λb0 _ _ _=>?_));refine Az (λb1 _ _ _=>?_);refine Az (λb2 _ _ _=>?_);refine Uz (λ_ _=>?_);refine Qn (dD (λx:Nat×Nat×Nat×Nat×Nat×Nat×Nat=>[(1,.pointer (some ⟨b0,0,none⟩)),(2,.pointer (some ⟨b1,0,none⟩)),(5,.pointer (some ⟨x.1,0,none⟩))]) (λx w'=>Sep w noB [blk x.1 (yx x.2.2.2.2.2.1 x.2.2.2.2.2.2 x.2.2.2.1 x.2.2.2.2.1 x.2.1 x.2.2.1 b2) 280,blk x.2.1 [I (-9223372036854775808)] 2,blk x.2.2.1 [I 9223372036854775807] 2,blk x.2.2.2.1 [I (-2147483648)] 2,blk x.2.2.2.2.1 [I 2147483647] 2,blk x.2.2.2.2.2.1 [I 0] 2,blk x.2.2.2.2.2.2 [I 1] 2,blk b2 [nK 199] 228,blk b1 (List.replicate 5 .nilFunc) 233,blk b0 (aD t) 65] w') ?_ ?_)
 .refine Dz (λk _ S=>?_)
  refine Zb1 ?_;refine Gm k 3 ?_;refine Gm k 6 ?_;refine Gp k 9 rfl rfl (λ_=>(Gives.makeFunc rfl rfl)) (Gb k 10 ((Value.func (.func 208) #[] #[.pointer (some ⟨b2,0,none⟩)])::kF4) ?_);refine Zb1 ?_;refine Gb k 12 ((nK 199)::kF5) ?_;refine j4 k (e1:=1) (e2:=14) kR ?_ ?_
  .refine pK k 1 [(12,true),(11,false),(10,true),(9,true),(6,true),(3,true)] (y:=.tmp 6) (f:=197) (fs:=[]) (cs:=[]) (vals:=[I 0,I 1]) rfl (qA 0 1) (h:=λv' _ hv=>?_)
   obtain⟨p1,q1,rfl,bZ,F',hq,iA⟩:=hv;have a:=(S.new bZ hq λb hb=>(iA b hb).resolve_left id).bL;refine⟨sL,?_⟩;refine Gb k 2 ((oQ p1 q1)::kF1) ?_;refine j4 k (e1:=4) (e2:=14) kR ?_ ?_
   .refine pK k 4 [(2,true),(12,true),(11,false),(10,true),(9,true),(6,true)] (y:=.tmp 9) (f:=197) (fs:=[]) (cs:=[]) (vals:=[I (-2147483648),I 2147483647]) rfl (qA (-2147483648) 2147483647) (h:=λv' _ hv=>?_)
    obtain⟨p2,q2,rfl,bZ,F',hq,iA⟩:=hv;have d:=(a.new bZ hq λb hb=>(iA b hb).resolve_left id).bL;refine⟨sL,?_⟩;refine Gb k 5 ((oQ p2 q2)::kF2) ?_;refine j4 k (e1:=7) (e2:=14) kR ?_ ?_
    .refine pK k 7 [(5,true),(2,true),(12,true),(11,false),(10,true),(9,true)] (y:=.tmp 12) (f:=197) (fs:=[]) (cs:=[]) (vals:=[I (-9223372036854775808),I 9223372036854775807]) rfl (qA (-9223372036854775808) 9223372036854775807) (h:=λv' _ hv=>?_)
     obtain⟨p3,q3,rfl,bZ,F',hq,iA⟩:=hv;have g:=(d.new bZ hq λb hb=>(iA b hb).resolve_left id).bL;refine⟨sL,?_⟩;refine Gb k 8 ((oQ p3 q3)::kF2) ?_;refine Gp k 13 rfl rfl (λ_=>(Gives.AX (out:=yx p1 q1 p2 q2 p3 q3 b2) rfl (CB rfl rfl rfl rfl rfl rfl rfl rfl rfl rfl))) (tZ k 14 [(13,true),(8,true),(5,true),(2,true),(12,true),(11,false),(10,true),(9,true)] g (h:=λb5 _ g=>⟨sL,?_⟩));refine bN k 15 _ g (h:=λ_ g=>⟨sT,?_⟩);refine Zb0 ?_;exact au (b5,p3,q3,p2,q2,p1,q1) tR g
    refine lM k 14 [(5,true),(2,true),(12,true),(11,false),(10,true),(9,true),(6,true)] d (h:=λb5 _ g=>⟨sL,?_⟩);refine jU k 7 [(5,true),(2,true),(12,true),(11,false),(10,true),(9,true)] (y:=.tmp 12) (f:=197) (fs:=[]) (cs:=[]) (vals:=[I (-9223372036854775808),I 9223372036854775807]) rfl (qA (-9223372036854775808) 9223372036854775807) (h:=λv' _ hv=>?_);obtain⟨p3,q3,rfl,bZ,F',hq,iA⟩:=hv;have d:=(g.new bZ hq λb hb=>(iA b hb).resolve_left id).bL;refine⟨sL,?_⟩;refine Gb k 8 ((oQ p3 q3)::kF2) ?_;refine Gp k 13 rfl rfl (λ_=>(Gives.AX (out:=yx p1 q1 p2 q2 p3 q3 b2) rfl (CB rfl rfl rfl rfl rfl rfl rfl rfl rfl rfl))) (bN k 15 _ d (h:=λ_ d=>⟨sT,?_⟩));refine Zb0 ?_;exact au (b5,p3,q3,p2,q2,p1,q1) tR d.aN
   refine lM k 14 [(2,true),(12,true),(11,false),(10,true),(9,true),(6,true),(3,true)] a (h:=λb5 _ d=>⟨sL,?_⟩);refine jU k 4 [(2,true),(12,true),(11,false),(10,true),(9,true),(6,true)] (y:=.tmp 9) (f:=197) (fs:=[]) (cs:=[]) (vals:=[I (-2147483648),I 2147483647]) rfl (qA (-2147483648) 2147483647) (h:=λv' _ hv=>?_);obtain⟨p2,q2,rfl,bZ,F',hq,iA⟩:=hv;have a:=(d.new bZ hq λb hb=>(iA b hb).resolve_left id).bL;refine⟨sL,?_⟩;refine Gb k 5 ((oQ p2 q2)::kF2) ?_;refine jU k 7 [(5,true),(2,true),(12,true),(11,false),(10,true),(9,true)] (y:=.tmp 12) (f:=197) (fs:=[]) (cs:=[]) (vals:=[I (-9223372036854775808),I 9223372036854775807]) rfl (qA (-9223372036854775808) 9223372036854775807) (h:=λv' _ hv=>?_);obtain⟨p3,q3,rfl,bZ,F',hq,iA⟩:=hv;have d:=(a.new bZ hq λb hb=>(iA b hb).resolve_left id).bL;refine⟨sL,?_⟩;refine Gb k 8 ((oQ p3 q3)::kF2) ?_;refine Gp k 13 rfl rfl (λ_=>(Gives.AX (out:=yx p1 q1 p2 q2 p3 q3 b2) rfl (CB rfl rfl rfl rfl rfl rfl rfl rfl rfl rfl))) (bN k 15 _ d (h:=λ_ d=>⟨sT,?_⟩));refine Zb0 ?_;exact au (b5,p3,q3,p2,q2,p1,q1) tR d.gG
  refine lM k 14 [(12,true),(11,false),(10,true),(9,true),(6,true),(3,true),(0,true)] S (h:=λb5 _ d=>⟨sL,?_⟩);refine jU k 1 [(12,true),(11,false),(10,true),(9,true),(6,true),(3,true)] (y:=.tmp 6) (f:=197) (fs:=[]) (cs:=[]) (vals:=[I 0,I 1]) rfl (qA 0 1) (h:=λv' _ hv=>?_);obtain⟨p1,q1,rfl,bZ,F',hq,iA⟩:=hv;have S:=(d.new bZ hq λb hb=>(iA b hb).resolve_left id).bL;refine⟨sL,?_⟩;refine Gb k 2 ((oQ p1 q1)::kF1) ?_;refine jU k 4 [(2,true),(12,true),(11,false),(10,true),(9,true),(6,true)] (y:=.tmp 9) (f:=197) (fs:=[]) (cs:=[]) (vals:=[I (-2147483648),I 2147483647]) rfl (qA (-2147483648) 2147483647) (h:=λv' _ hv=>?_);obtain⟨p2,q2,rfl,bZ,F',hq,iA⟩:=hv;have d:=(S.new bZ hq λb hb=>(iA b hb).resolve_left id).bL;refine⟨sL,?_⟩;refine Gb k 5 ((oQ p2 q2)::kF2) ?_;refine jU k 7 [(5,true),(2,true),(12,true),(11,false),(10,true),(9,true)] (y:=.tmp 12) (f:=197) (fs:=[]) (cs:=[]) (vals:=[I (-9223372036854775808),I 9223372036854775807]) rfl (qA (-9223372036854775808) 9223372036854775807) (h:=λv' _ hv=>?_);obtain⟨p3,q3,rfl,bZ,F',hq,iA⟩:=hv;have S:=(d.new bZ hq λb hb=>(iA b hb).resolve_left id).bL;refine⟨sL,?_⟩;refine Gb k 8 ((oQ p3 q3)::kF2) ?_;refine Gp k 13 rfl rfl (λ_=>(Gives.AX (out:=yx p1 q1 p2 q2 p3 q3 b2) rfl (CB rfl rfl rfl rfl rfl rfl rfl rfl rfl rfl))) (bN k 15 _ S (h:=λ_ S=>⟨sT,?_⟩));refine Zb0 ?_;exact au (b5,p3,q3,p2,q2,p1,q1) tR S.jZ
 rintro⟨b5,p3,q3,p2,q2,p1,q1⟩ τ S S;dsimp only at S;refine Lp ?_;refine Sr ?_;have htn:((t.kind.toNat:Nat):Int)=t.kind:=zcp oM
 obtain⟨isV,X7,qy,tq⟩: ∃isV:Value,((t.kind=1/\isV=oQ p1 q1)\/(t.kind=2/\isV=oQ p2 q2)\/(t.kind=3/\isV=oQ p3 q3)\/(t.kind=4/\isV=Value.func (.func 208) #[] #[.pointer (some ⟨b2,0,none⟩)])\/(t.kind=5/\isV=nK 199))/\isV.oneCell'=true/\((yx p1 q1 p2 q2 p3 q3 b2).drop (0+t.kind.toNat*5)).take 5=isV::A8 t.kind:=by
  rcases (by omega :t.kind=1\/t.kind=2\/t.kind=3\/t.kind=4\/t.kind=5)with e | e | e | e | e<;>rw[e]
  .exact⟨_,.inl ⟨rfl,rfl⟩,rfl,rfl⟩
  .exact⟨_,.inr (.inl ⟨rfl,rfl⟩),rfl,rfl⟩
  .exact⟨_,.inr (.inr (.inl ⟨rfl,rfl⟩)),rfl,rfl⟩
  .exact⟨_,.inr (.inr (.inr (.inl ⟨rfl,rfl⟩))),rfl,rfl⟩
  exact⟨_,.inr (.inr (.inr (.inr ⟨rfl,rfl⟩))),rfl,rfl⟩
 refine Vf ?_;refine Zb1 ?_;refine Vv (Gives.Br (i:=t.kind.toNat) rfl (by rw[htn];rfl) oM) ?_;refine FK (us:=isV::A8 t.kind) (o:=0+t.kind.toNat*5) (b:=b5) S (hx:=by rw[<-Addr.add_lit];rfl) (hat:=by exact aT) (hu:=tq) (hk:=by rw[zas,GQ]) (h:=?_);refine iy S (us:=isV::A8 t.kind) (hk:=by rw[zas,GQ]) (hv:=by rw[List.all_cons,qy,acH];rfl) (h:=λ_ S=>?_);refine Zb0 ?_;refine⟨_,fB S (hk:=by rw[zas,GQ]),⟨isV,rfl,?_⟩,S.kept⟩
 rcases X7 with⟨e,rfl⟩ | ⟨e,rfl⟩ | ⟨e,rfl⟩ | ⟨e,rfl⟩ | ⟨e,rfl⟩<;>rw[e]
 .exact Ed (by first | exact S.obj At0 | exact S.obj At2 | exact S.obj At4 | exact S.obj At1 | exact S.obj At3 | exact S.obj At5 | exact S.obj At6 | exact S.obj At7) (by first | exact S.obj At0 | exact S.obj At2 | exact S.obj At4 | exact S.obj At1 | exact S.obj At3 | exact S.obj At5 | exact S.obj At6 | exact S.obj At7) (λc=>rfl)
 .exact Ed (by first | exact S.obj At0 | exact S.obj At2 | exact S.obj At4 | exact S.obj At1 | exact S.obj At3 | exact S.obj At5 | exact S.obj At6 | exact S.obj At7) (by first | exact S.obj At0 | exact S.obj At2 | exact S.obj At4 | exact S.obj At1 | exact S.obj At3 | exact S.obj At5 | exact S.obj At6 | exact S.obj At7) (λc=>rfl)
 .exact Ed (by first | exact S.obj At0 | exact S.obj At2 | exact S.obj At4 | exact S.obj At1 | exact S.obj At3 | exact S.obj At5 | exact S.obj At6 | exact S.obj At7) (by first | exact S.obj At0 | exact S.obj At2 | exact S.obj At4 | exact S.obj At1 | exact S.obj At3 | exact S.obj At5 | exact S.obj At6 | exact S.obj At7) (λc=>rfl)
 .exact acF (by first | exact S.obj At7 | exact S.obj At6 | exact S.obj At5 | exact S.obj At4) (hT.keep S.kept)
 exact acG
end
attribute [local irreducible] nZ isP A8
section
variable {w:Wd}
def aft {t:bM}:nZ t=true↔1<=t.kind/\t.kind<=5:=by unfold nZ;exact decide_eq_true_iff
def tL (t:bM) (c:aC) (hf:fits c.n) (hT:mX w):Rk Tryz.prog 98 [agg (aD t),agg (ah c)] w (I (gJ t c)):=by
 have H:=Sep.aF w;obtain⟨res,ak⟩: ∃res,res=gJ t c:=⟨_,rfl⟩;rw[<-ak];unfold gJ at ak;refine bQ Tryz.func98 ?_;refine Sr (bB H (cs:=aD t) rfl (h:=λb0 _ k _=>?_));refine bB k (cs:=ah c) rfl (h:=λb1 _ _ _=>?_);refine Kz (zu t) (λ_ k _=>?_);refine Za2 ?_;refine Qn (Cd rfl (λS=>?_) (λS=>?_))
 .have hm:nZ t=false:=by have h:=S;revert h;cases nZ t<;>simp
  rw[zac hm]at ak;refine Zb1 ?_;exact⟨by rw[ak];rfl,k.kept⟩
 have hm:nZ t=true:=by have h:=S;revert h;cases nZ t<;>simp
 rw[zab (by rw[hm];simp)]at ak;obtain⟨h1,h5⟩:=aft.1 hm;refine Zb3 ?_;refine dH (t:=12) rfl (λS=>?_) (λS=>?_)
 .have Yd:c.null=true:=S
  rw[zac Yd]at ak;refine Zb4 ?_;refine dH (t:=16) rfl (λa=>?_) (λa=>?_)
  .have htn:t.null=false:=by have h:=a;revert h;cases t.null<;>simp
   rw[zab (by rw[htn];simp)]at ak;refine Zb4 ?_;exact⟨by rw[ak];rfl,k.kept⟩
  have htn:t.null=true:=by have h:=a;revert h;cases t.null<;>simp
  refine Zb1 ?_;refine Vb (ah bF) ?_;refine On (Vv (Gives.alY (enc:=ah) _ _ rfl rfl) (Cz (λa=>?_) (λa=>?_)))
  .rw[zab (λh=>a h.2)]at ak
   refine Sk (dQ (zaw Value.bool (zap a)) ?_);refine Zb1 ?_;exact⟨by rw[ak];rfl,k.kept⟩
  rw[zac ⟨htn,zcr.1 a⟩]at ak;refine Dz (λa _ k=>?_);refine Zb4 ?_;refine F7 (t:=25) rfl (λb=>?_) (λb=>?_)
  .exact zar b (by rw[Yd];simp)
  refine QG a 4 rfl rfl kR ?_;refine QG a 7 rfl rfl kR ?_;refine QG a 5 rfl rfl kR ?_;refine QG a 6 rfl rfl kR ?_;refine QG a 8 rfl rfl kR ?_;refine Zb3 ?_;exact⟨by rw[ak];rfl,k.kept⟩
 have Yd: ¬c.null=true:=by have h:=S;simpa using h
 rw[zab Yd,<-alx hf]at ak;refine Dz (λb _ k=>?_);refine Zb4 ?_;refine F7 (t:=25) rfl (λa=>?_) (λa=>?_)
 .refine Zb1 ?_
  refine jM b 7 k (h:=?_);refine qG b 5 [(7,false)] rfl kR (afs t h1 h5 (hT.keep k.kept)) rfl kR kR (λv' _ hv=>?_);obtain⟨⟨isF,rfl,hp⟩,bZ⟩:=hv;obtain⟨f,fs,cs,rfl,EG,qP⟩:=hp;have S:=k.keep bZ;refine⟨(bK rfl kR (Gives.JV rfl (S.obj At0) (us:=ah c) rfl rfl) rfl (eu)),?_⟩;refine Zb1 ?_;refine jU b 8 _ (y:=.tmp 28) (f:=f) (fs:=fs) (cs:=cs) (vals:=[agg (ah c)]) rfl (qP c _ (Kept.refl _ _)) (h:=λv' _ hv=>?_);obtain⟨rfl,amu⟩:=hv;have k:=S.keep amu;refine⟨sT,?_⟩;refine Za3 ?_;refine fK b kR ?_;refine iX (Cd rfl (λS=>?_) (λS=>?_))
  .rw[zab (by have h:=S;revert h;cases isP t.kind c<;>simp)]at ak
   refine Zb1 ?_;exact⟨by rw[ak];rfl,k.kept⟩
  rw[zac (by have h:=S;revert h;cases isP t.kind c<;>simp)]at ak;refine Zb1 ?_;exact⟨by rw[ak];rfl,k.kept⟩
 exact zar (show c.null=true by have h:=a;revert h;cases c.null<;>simp) Yd
end
end
end
section
section gives
variable {P:Program} {ρ:Od->Value} {ty:Td} {w:Wd} {x y:Od} {T U:Td} {k:IntKind} {a b:Int}
def Gives.andNot (hx:ρ x=.int k a) (hy:ρ y=.int k b):Gives P ρ (.binOp .andNot T x y U) ty w (.int k (bits .andNot k a b)) w:=.bin hx hy (λ_ _=>rfl) (by rw[binOp_andNot];rfl)
end gives
end
section
attribute [local irreducible] FW FL FG FGn jK jO fI lU Qfn Gives
def Vj {y:Nat} (hy:y<18446744073709551616):y&&& 18446744073709551614=0↔y<=1:=by
 constructor
 .intro h
  have h1:=Nat.and_div_two (a:=y) (b:=18446744073709551614);rw[h,show 18446744073709551614/2=2^63-1 from dC,Nat.and_two_pow_sub_one_eq_mod]at h1;have h2:y/2%2^63=y/2:=Nat.mod_eq_of_lt oM;omega
 intro h
 rcases (by omega :y=0\/y=1)with rfl | rfl<;>decide
def aa9 {n:Int} (hf:fits n):bits .andNot .i64 n 1=0↔0<=n/\n<=1:=by
 obtain⟨h0,h1⟩:=hf;show IntKind.i64.wrap ((BitVec.ofInt 64 n&&& ~~~BitVec.ofInt 64 1).toNat:Int)=0↔_
 have e1:(BitVec.ofInt 64 1).toNat=1:=dC;have e2:(BitVec.ofInt 64 n).toNat=(n%18446744073709551616).toNat:=BitVec.toNat_ofInt n;have aS:(n%18446744073709551616).toNat<18446744073709551616:=oM;rw[BitVec.toNat_and,BitVec.toNat_not,e1,e2,show 2^64-1-1=18446744073709551614 from dC,IntKind.wrap_i64];have rG:(n%18446744073709551616).toNat&&& 18446744073709551614<=(n%18446744073709551616).toNat:=Nat.and_le_left;have key:=Vj aS;constructor
 .intro h
  have :(n%18446744073709551616).toNat&&& 18446744073709551614=0:=by omega
  have:=key.1 this;omega
 intro h;rw[key.2 oM]
 decide
def Me {s:L8}:gJ ⟨4,false⟩ ⟨false,0,s⟩=0↔s.length<=1024/\validD s=true:=by
 have e:gJ ⟨4,false⟩ ⟨false,0,s⟩=if decide ((0:Int)=0/\s.length<=1024/\validD s=true)=true then 0 else 90:=rfl
 rw[e]
 by_cases h:s.length<=1024/\validD s=true
 .rw[zac (zap ⟨rfl,h⟩)];exact⟨λ_=>h,λ_=>rfl⟩
 rw[zab (by rw[decide_eq_true_eq];exact λe=>h e.2)];exact⟨λe=>zar e dC,λe=>zar e h⟩
def JX {s:L8}:gJ ⟨5,false⟩ ⟨false,0,s⟩=0↔s.length<=1024:=by
 have e:gJ ⟨5,false⟩ ⟨false,0,s⟩=if decide ((0:Int)=0/\s.length<=1024)=true then 0 else 90:=rfl
 rw[e]
 by_cases h:s.length<=1024
 .rw[zac (zap ⟨rfl,h⟩)];exact⟨λ_=>h,λ_=>rfl⟩
 rw[zab (by rw[decide_eq_true_eq];exact λe=>h e.2)];exact⟨λe=>zar e dC,λe=>zar e h⟩
def akB:fits 0:=⟨dC,dC⟩
def Vk:oh k≠[]↔k=1\/(3<=k/\k<=5):=by
 unfold oh
 split
 .simp[*]
 split
 .simp[*]
 split
 .simp[*]
 split
 .simp[*]
 simp;omega
attribute [local irreducible] gJ oh
section
variable {w:Wd}
def YM (x:bI) (hf:fits x.n) (hT:mX w):Rk Tryz.prog 83 [agg (aM x)] w (.bool (dP x)):=by
 have H:=Sep.aF w;obtain⟨res,ak⟩: ∃res,res=dP x:=⟨_,rfl⟩;rw[<-ak];unfold dP at ak;refine cK Tryz.func83 ?_;refine Sr (bB H (cs:=aM x) rfl (h:=λb0 _ _ _=>?_));refine Dz (λ_ _ k=>?_);refine Cz (λS=>?_) (λS=>?_)
 .rw[zac S]at ak
  refine Sz (λI=>?_) (λI=>?_)
  .have hA:=I
   refine Sz (λa=>?_) (λa=>?_)
   .have hB:=a
    refine Zb5 ?_;exact⟨zaw Value.bool (by rw[ak];exact zbf.2 ⟨λh=>⟨hA,hB,h⟩,λh=>h.2.2⟩),k.kept⟩
   have hB:=a;refine Zb2 ?_;exact⟨zaw Value.bool (by rw[ak];exact Eq.symm (zal λh=>hB h.2.1)),k.kept⟩
  have hA:=I;refine Zb4 ?_;exact⟨zaw Value.bool (by rw[ak];exact Eq.symm (zal λh=>hA h.1)),k.kept⟩
 rw[zab S]at ak;refine Cz (λa=>?_) (λa=>?_)
 .rw[zac a]at ak
  refine Zb2 ?_;exact⟨by rw[ak];rfl,k.kept⟩
 rw[zab a]at ak;refine Cz (λa=>?_) (λa=>?_)
 .rw[zac a]at ak
  refine Sz (λI=>?_) (λI=>?_)
  .have hA:=I
   refine Zb2 ?_;refine Vv (Gives.andNot rfl rfl) (Zb3 ?_);exact⟨zaw Value.bool (by rw[ak];exact zbf.2 ⟨λh=>⟨hA,(aa9 hf).1 h⟩,λh=>(aa9 hf).2 h.2⟩),k.kept⟩
  have hA:=I;refine Zb2 ?_;exact⟨zaw Value.bool (by rw[ak];exact Eq.symm (zal λh=>hA h.1)),k.kept⟩
 rw[zab a]at ak;refine Cz (λI=>?_) (λI=>?_)
 .rw[zac I]at ak
  refine Sz (λa=>?_) (λa=>?_)
  .have hA:=a
   refine On (Vb (aD ⟨4,false⟩) ?_);refine Zb2 ?_;refine Vb (ah ⟨false,0,x.s⟩) ?_;refine On (Kz (tL ⟨4,false⟩ ⟨false,0,x.s⟩ akB (hT.keep k.kept)) (λ_ S _=>?_));refine Zb3 ?_;exact⟨zaw Value.bool (by rw[ak];exact zbf.2 ⟨λh=>⟨hA,Me.1 h⟩,λh=>Me.2 h.2⟩),S.kept⟩
  have hA:=a;refine Zb2 ?_;exact⟨zaw Value.bool (by rw[ak];exact Eq.symm (zal λh=>hA h.1)),k.kept⟩
 rw[zab I]at ak;refine Cz (λS=>?_) (λS=>?_)
 .rw[zac S]at ak
  refine Sz (λa=>?_) (λa=>?_)
  .have hA:=a
   refine On (Vb (aD ⟨5,false⟩) ?_);refine Zb2 ?_;refine Vb (ah ⟨false,0,x.s⟩) ?_;refine On (Kz (tL ⟨5,false⟩ ⟨false,0,x.s⟩ akB (hT.keep k.kept)) (λ_ I _=>?_));refine Zb3 ?_;exact⟨zaw Value.bool (by rw[ak];exact zbf.2 ⟨λh=>⟨hA,JX.1 h⟩,λh=>JX.2 h.2⟩),I.kept⟩
  have hA:=a;refine Zb2 ?_;exact⟨zaw Value.bool (by rw[ak];exact Eq.symm (zal λh=>hA h.1)),k.kept⟩
 rw[zab S]at ak;refine Cz (λI=>?_) (λI=>?_)
 .rw[zac I]at ak
  refine Sz (λa=>?_) (λa=>?_)
  .have hA:=a
   refine Kz (RY x.n) (λ_ S _=>?_);refine Sz (λb=>?_) (λb=>?_)
   .have hB:=b
    refine Zb7 ?_;exact⟨zaw Value.bool (by rw[ak];exact zbf.2 ⟨λ_=>⟨hA,Vk.1 hB⟩,λ_=>trivial⟩),S.kept⟩
   have hB:=b;refine Zb2 ?_;exact⟨zaw Value.bool (by rw[ak];exact Eq.symm (zal λh=>hB (Vk.2 h.2))),S.kept⟩
  have hA:=a;refine Zb4 ?_;exact⟨zaw Value.bool (by rw[ak];exact Eq.symm (zal λh=>hA h.1)),k.kept⟩
 rw[zab I]at ak;refine Sz (λb=>?_) (λb=>?_)
 .have hA:=b
  refine Sz (λS=>?_) (λS=>?_)
  .have hB:=S
   refine Sz (λa=>?_) (λa=>?_)
   .have hC:=a
    refine Zb3 ?_;exact⟨zaw Value.bool (by rw[ak];exact zbf.2 ⟨λh=>⟨hA,hB,h,hC⟩,λh=>h.2.2.1⟩),k.kept⟩
   have hC:=a;refine Zb2 ?_;exact⟨zaw Value.bool (by rw[ak];exact Eq.symm (zal λh=>hC h.2.2.2)),k.kept⟩
  have hB:=S;refine Zb4 ?_;exact⟨zaw Value.bool (by rw[ak];exact Eq.symm (zal λh=>hB h.2.1)),k.kept⟩
 have hA:=b;refine Zb6 ?_;exact⟨zaw Value.bool (by rw[ak];exact Eq.symm (zal λh=>hA h.1)),k.kept⟩
end
end
end Go.Proofs.Mw
