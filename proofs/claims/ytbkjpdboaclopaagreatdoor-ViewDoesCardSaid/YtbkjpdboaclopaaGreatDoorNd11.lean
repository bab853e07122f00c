/-
 A stack's take and put,walked;how many values a step takes;words of nothing;may a type be.
-/
import Derived.Test.YtbkjpdboaclopaaGreatDoorNd10
import Derived.Test.YtbkjpdboaclopaaGreatDoorShelf
set_option linter.all false
set_option maxRecDepth 4000
namespace Go.Proofs.Mw
variable {A:OA} {c n:Nat}
open Go.RowKit
section gives
variable {P:Program} {ρ:Od->Value} {ty:Td} {w:Wd} {x y z:Od}
def Gives.Wp {t e:Td} [ht:dn P t e] {size bytes:Nat} [hc:Cells P e size bytes] {h m:Nat} {k j:IntKind} (hx:ρ x=.slice A n c) (hy:ρ y=.int k h) (hz:ρ z=.int j m) (rW:h<=m) (YU:m<=c):Gives P ρ (.slice t x none (some y) (some z)) ty w (.slice A h m) w:=λ_ _ _ _=>by
 obtain⟨i,hi,qE⟩:=zbc.1 hc.size;have e1:(0:Int)<=(h:Int)/\(h:Int)<=(m:Int):=oM;have e2:(0:Int)<=(m:Int)/\(m:Int)<=(c:Int):=oM;have e3:A.map (λx:Addr=>x.add 0)=A:=by cases A<;>simp[Addr.add_zero']
 simp[execOp,hx,hy,hz,Instr.sliceAt,run_underlying ht.und,Instr.slice,Instr.sliceBounds,Instr.sliceBound,asIntOf,e1,e2,sizeOf,typeInfo,hi,e3,rW,YU]
end gives
variable {E b:Nat} {F:NP}
open Go.Lib
section
attribute [local irreducible] FW FL FG FGn jJ jO fC lJ Qfn Gives
section
variable {w:Wd}
def TG {k:Nat} (hp:(blk b [.slice A n c] E).ok F w) (hk:k<=n) (hnc:n<=c) (hc:n<=9223372036854775807):
    aQ Tryz.prog 102 [.pointer (some ⟨b,0,none⟩),I k] w λv w'=>v=.tuple #[.slice (if c=n-k then A else A.map (·.add ((n-k)*2))) k (c-(n-k)),.bool true]/\Turn F (blk b [.slice A (n-k) (n-k)] E) w w':=by
  have H:=Sep.bW hp;refine bU Tryz.func102 ?_;refine V8 ?_;refine Vc ((n-k:Nat):Int) ?_;refine Cz (λS=>?_) (λS=>?_)
  . exact zas S oM
  refine V5 ?_;refine Vv (Gives.sliceFrom rfl rfl oM) ?_;rw[show n-(n-k)=k from oM];refine V8 ?_;refine Vv (Gives.Wp rfl rfl rfl oM oM) (Uz (λ_ S=>?_));refine V3 ?_;exact⟨rfl,S.turn⟩
def MI {k:Nat} (hp:(blk b [.slice A n c] E).ok F w) (hk:n<k) (hk2:k<=1000000):
    aQ Tryz.prog 102 [.pointer (some ⟨b,0,none⟩),I k] w λv w'=>v=.tuple #[.slice none 0 0,.bool false]/\Turn F (blk b [.slice A n c] E) w w':=by
  have H:=Sep.bW hp;refine bU Tryz.func102 ?_;refine Cz (λS=>?_) (λS=>?_)
  . refine V2 ?_
    exact⟨rfl,H.turn⟩
  exact zas (show((n:Int)-k)<0 from oM) S
def Wq {l news:List bR} {vn:Value} (hp:(blk b [.slice A l.length l.length] E).ok F w) (hr:Rd w A aD 2 l) (hn:aJ w vn aD 2 news) (iJ:0<news.length) (hlen:l.length+news.length<=1000000):
    aQ Tryz.prog 107 [.pointer (some ⟨b,0,none⟩),vn] w λv w'=>∃x,v=.tuple #[]/\True/\Turn F (star (blk b [x] E) (aU 45 2 aD x (l++news))) w w':=by
  obtain⟨B,m,rfl,⟨hm,nX⟩,hB⟩:=hn;have H:=Sep.bW hp;refine bU Tryz.func107 ?_;refine V6 ?_;refine OX H hr hB iJ (by unfold maxLen;omega) oM (cells_one (λ_=>rfl) _) (h:=?_);intro v2 k k S;obtain⟨B2,c2,rfl,S,hB2⟩:=Sep.bH k At0;refine Uz (λ_ S=>?_);refine V0 ?_;exact⟨_,rfl,trivial,(S.aF.aR).turn⟩
def TH {k:Nat} (hp:(blk b [.slice A n c] E).ok F w) (hk:k<=n) (hnc:n<=c) (hc:n<=9223372036854775807):
    aQ Tryz.prog 119 [.pointer (some ⟨b,0,none⟩),I k] w λv w'=>v=.tuple #[.slice (if c=n-k then A else A.map (·.add ((n-k)*3))) k (c-(n-k)),.bool true]/\Turn F (blk b [.slice A (n-k) (n-k)] E) w w':=by
  have H:=Sep.bW hp;refine bU Tryz.func119 ?_;refine V8 ?_;refine Vc ((n-k:Nat):Int) ?_;refine Cz (λS=>?_) (λS=>?_)
  . exact zas S oM
  refine V5 ?_;refine Vv (Gives.sliceFrom rfl rfl oM) ?_;rw[show n-(n-k)=k from oM];refine V8 ?_;refine Vv (Gives.Wp rfl rfl rfl oM oM) (Uz (λ_ S=>?_));refine V3 ?_;exact⟨rfl,S.turn⟩
def xK {l news:List aC} {vn:Value} (hp:(blk b [.slice A l.length l.length] E).ok F w) (hr:Rd w A ah 3 l) (hn:aJ w vn ah 3 news) (iJ:0<news.length) (hlen:l.length+news.length<=1000000):
    aQ Tryz.prog 121 [.pointer (some ⟨b,0,none⟩),vn] w λv w'=>∃x,v=.tuple #[]/\True/\Turn F (star (blk b [x] E) (aU 47 3 ah x (l++news))) w w':=by
  obtain⟨B,m,rfl,⟨hm,nX⟩,hB⟩:=hn;have H:=Sep.bW hp;refine bU Tryz.func121 ?_;refine V6 ?_;refine OX H hr hB iJ (by unfold maxLen;omega) oM (cells_one (λ_=>rfl) _) (h:=?_);intro v2 k k S;obtain⟨B2,c2,rfl,S,hB2⟩:=Sep.bH k At0;refine Uz (λ_ S=>?_);refine V0 ?_;exact⟨_,rfl,trivial,(S.aF.aR).turn⟩
def abZ (k:Int):Rk Tryz.prog 103 [I k] w (I (dH k)):=by
 have H:=Sep.aH w;obtain⟨res,ak⟩: ∃res,res=dH k:=⟨_,rfl⟩;rw[<-ak];unfold dH at ak;refine dh Tryz.func103 ?_;refine Cz (λS=>?_) (λS=>?_)
 .rw[zac S]at ak
  refine V1 ?_;exact⟨by rw[ak];rfl,H.kept⟩
 rw[zaa S]at ak;refine Sz (λS=>?_) (λS=>?_)
 .refine V7 ?_
  exact⟨by rw[ak,zac oM];rfl,H.kept⟩
 refine Sz (λS=>?_) (λS=>?_)
 .refine V5 ?_
  exact⟨by rw[ak,zac oM];rfl,H.kept⟩
 refine Sz (λS=>?_) (λS=>?_)
 .refine V3 ?_
  exact⟨by rw[ak,zac oM];rfl,H.kept⟩
 refine Cz (λS=>?_) (λS=>?_)
 .refine V1 ?_
  exact⟨by rw[ak,zac oM];rfl,H.kept⟩
 rw[zaa oM]at ak;refine V1 ?_;exact⟨by rw[ak];rfl,H.kept⟩
def TI (k:Int):Rk Tryz.prog 160 [I k] w (str (oG k)):=by
 have H:=Sep.aH w;obtain⟨res,ak⟩: ∃res,res=oG k:=⟨_,rfl⟩;rw[<-ak];unfold oG at ak;refine dh Tryz.func160 ?_;refine Cz (λS=>?_) (λS=>?_)
 .rw[zac S]at ak
  refine V1 ?_;exact⟨by rw[ak];rfl,H.kept⟩
 rw[zaa S]at ak;refine Cz (λS=>?_) (λS=>?_)
 .rw[zac S]at ak
  refine V1 ?_;exact⟨by rw[ak];rfl,H.kept⟩
 rw[zaa S]at ak;refine Cz (λS=>?_) (λS=>?_)
 .rw[zac S]at ak
  refine V1 ?_;exact⟨by rw[ak];rfl,H.kept⟩
 rw[zaa S]at ak;refine Cz (λS=>?_) (λS=>?_)
 .rw[zac S]at ak
  refine V1 ?_;exact⟨by rw[ak];rfl,H.kept⟩
 rw[zaa S]at ak;refine V1 ?_;exact⟨by rw[ak];rfl,H.kept⟩
def zS (t:bR):Rk Tryz.prog 108 [agg (aD t)] w (.bool (oD t)):=by
 have H:=Sep.aH w;refine dh Tryz.func108 ?_;refine Sr (bB H (cs:=aD t) rfl (h:=λb0 _ k _=>?_));refine Sz (λS=>?_) (λS=>?_)
 .refine V5 ?_
  exact⟨by unfold oD;exact zay Value.bool (zbf.2 oM),k.kept⟩
 refine V2 ?_;exact⟨by unfold oD;rw[zal oM];rfl,k.kept⟩
end
end
section gives
variable {P:Program} {ρ:Od->Value} {ty:Td} {w:Wd}
def Gives.Bu {T e:Td} {size bytes:Nat} [ha:zM P T n e] [hc:Cells P e size bytes] {z:Value} [hz:Zero P T z] {zs:LV} {parts:List (Nat×Od)} {out:LV} (Es:z.cells=zs.toArray) (h:Fills (λi:Nat=>some (i*size,size)) ρ parts zs out):
    Gives P ρ (.build T parts.toArray) ty w (.agg out.toArray) w:=λ_ _ _ _=>by
  obtain⟨i,hi,qE⟩:=zbc.1 hc.size;simp only[Prod.mk.injEq]at qE;have hf:=GJ h;simp only[execOp,Instr.build,zbj,hz.run,zan,run_underlying ha.und,sizeOf,typeInfo,hi,Es,zbl,zce,qE.1];have hf':Instr.fill (λi=>some (i*size,size)) zs.toArray (List.map (λx=>(x.fst,ρ x.snd)) parts)=some out.toArray:=hf;simp[hi,qE.1,hf']
end gives
section
attribute [local irreducible] FW FL FG FGn jJ jO fC lJ Qfn Gives
section
section
variable {w:Wd}
def agl {E:Td} (c:bT) (n:Int) (hb:w.heap[b]? =some (.cells #[I n] E (0,0))):Rk Tryz.prog 179 [agg (aM c),.pointer (some ⟨b,0,none⟩)] w (.bool (decide (c.id=n))):=by
 have H:=Sep.aH w;refine bU Tryz.func179 ?_;refine Sr (bB H (cs:=aM c) rfl (h:=λb0 _ k _=>?_));refine V3 ?_;refine dM (cs:=[I n]) (k.kept.get hb id) (h:=?_);refine V2 ?_;exact⟨rfl,k.kept⟩
def find_ok {cols:List bT} {vc:Value} (n:Int) (hc:aJ w vc aM 7 cols):Rk Tryz.prog 122 [vc,I n] w (I (zR (oF cols n))):=by
 have H:=Sep.aH w;refine bU Tryz.func122 ?_;refine Sr (bB H (h:=λb1 _ k _=>?_));refine V3 ?_;have Et:=k.obj At0;have hpr:tC _ (.func (.func 179) #[] #[.pointer (some ⟨b1,0,none⟩)]) (λc=>agg (aM c)) (λc=>decide (c.id=n)):=⟨179,[],[.pointer (some ⟨b1,0,none⟩)],rfl,eT,λc w'' hk=>agl c n (hk.get Et id)⟩;refine Kz (Wm (hc.keep k.kept) hpr) (λ_ k _=>?_);refine V1 ?_;exact⟨rfl,k.kept⟩
attribute [local irreducible] oD
def amy {cols:List bT} {vc:Value} (x:bL) (hc:aJ w vc aM 7 cols) (h1:1<=x.kind) (h6:x.kind<=6):Rk Tryz.prog 105 [vc,agg (aN x)] w (.tuple #[agg (aD ((qU cols x).getD gW)),.bool (qU cols x).isSome]):=by
  have Pg:=hc;obtain⟨A,m,rfl,⟨hm,nX⟩,hA⟩:=hc;have H:=Sep.aH w;obtain⟨res,ak⟩: ∃res,res=qU cols x:=⟨_,rfl⟩;rw[<-ak];unfold qU at ak;refine tN Tryz.func105 ?_;refine Sr (bB H (cs:=aN x) rfl (h:=λb0 _ _ _=>?_));refine Az (λb3 _ _ _=>?_);refine V1 ?_;refine Vv (Gives.Bu (out:=[I 0,I 0,I 3,I 1,I 4,I 5]) rfl (Fills.one rfl rfl rfl sM rfl (Fills.one rfl rfl rfl sM rfl (Fills.one rfl rfl rfl sM rfl (Fills.one rfl rfl rfl sM rfl Fills.nil))))) (Az (λbk _ _ _=>?_));refine Tz (λ_ k=>?_);refine Cz (λS=>?_) (λS=>?_)
  . rw[zaa oM,zaa oM,zaa oM,zaa oM,zaa oM]at ak
    refine V2 ?_;refine Vb (aD ⟨x.n,true⟩) ?_;refine Tz (λ_ S=>?_);refine V1 ?_;exact⟨_,bF S,by rw[ak];rfl,S.kept⟩
  refine Cz (λS=>?_) (λS=>?_)
  . rw[zac S]at ak
    refine Kz (find_ok x.n (Pg.keep k.kept)) (λ_ a _=>?_);refine Sz (λb=>?_) (λb=>?_)
    . have mE:oF cols x.n=none:=by
        cases hf:oF cols x.n with
        | none=>rfl
        | some i=>
          rw[hf]at b;exact zas (show((i:Nat):Int)<0 from b) oM
      rw[mE]at ak;refine V1 ?_;refine Vb (aD gW) ?_;refine Tz (λ_ d=>?_);refine V1 ?_;exact⟨_,bF d,by rw[ak];rfl,d.kept⟩
    obtain⟨i,hf⟩: ∃i,oF cols x.n=some i:=by
      cases hf:oF cols x.n with
      | none=>rw[hf]at b;exact zas (show(-1:Int)<0 from dC) b
      | some i=>exact⟨i,rfl⟩
    have aX:=G6 hf;obtain⟨c,hcg⟩:=get_some (l:=cols) (i:=i) aX;rw[hf]at ak;dsimp only at ak;rw[jy hcg]at ak;refine V2 ?_;rw[show(zR (oF cols x.n))=((i:Nat):Int) by rw[hf];rfl];refine Vv (Gives.fA rfl rfl hA aX) (V1 ?_);refine Vv (Gives.EZ (us:=aD c.type) rfl a hA hcg rfl rfl) (On ?_);refine Kz (zS c.type) (λ_ d _=>?_);refine O2 ?_;refine Qn (Cd rfl (λb=>?_) (λb=>?_))
    . rw[zac (by first | exact b | (have h:=b;revert h;cases oD c.type<;>simp))]at ak
      refine Sr (Vb (aD gW) ?_);refine Tz (λ_ a=>?_);refine V1 ?_;exact⟨_,bF a,by rw[ak];rfl,a.kept⟩
    rw[zaa (by have h:=b;revert h;cases oD c.type<;>simp)]at ak;refine V2 ?_;refine Vv (Gives.fA rfl rfl hA aX) (V1 ?_);refine Vv (Gives.EZ (us:=aD c.type) rfl d hA hcg rfl rfl) (Az (λb69 _ _ _=>?_));refine Tz (λ_ _=>?_);refine Cz (λa=>?_) (λa=>?_)
    . rw[zac a]at ak
      refine Uz (λ_ _=>?_);refine Tz (λ_ b=>?_);refine V1 ?_;exact⟨_,bF b,by rw[ak];rfl,b.kept⟩
    rw[zaa a]at ak;refine Tz (λ_ b=>?_);refine V1 ?_;exact⟨_,bF b,by rw[ak];rfl,b.kept⟩
  rw[zaa S]at ak;have htn:((x.kind.toNat:Nat):Int)=x.kind:=zcs oM
  obtain⟨kk,cK,hg⟩: ∃kk:Int,res=some ⟨kk,false⟩/\[(0:Int),0,3,1,4,5][x.kind.toNat]? =some kk:=by
    rcases (by omega :x.kind=2\/x.kind=3\/x.kind=4\/x.kind=5)with e | e | e | e<;>rw[e]at ak |- <;>exact⟨_,ak,rfl⟩
  have hR:Rd _ (some ⟨bk,0,none⟩) intCells 1 [(0:Int),0,3,1,4,5]:=Sep.lV k At0 rfl;refine V2 ?_;refine Vv (Gives.BO (i:=x.kind.toNat) rfl (by rw[htn];rfl) oM) ?_;refine Vv (Gives.CJ (f:=0) (i:=x.kind.toNat) rfl hR hg rfl) (Vb (aD ⟨kk,false⟩) ?_);refine Tz (λ_ b=>?_);refine V1 ?_;exact⟨_,bF b,by rw[cK];rfl,b.kept⟩
end
end
end
variable {P:Program} {r:Option Nat} {n:Nat} {ops:AO} {Q:Post} {σ:St} {w w0:Wd} {S:NP} {rs:List HP} {ty:Td} {pos:String} {after:Array Edge} {guard:Option (Nat×Bool)} {lv:List Bool} {pd:LNB}
variable {f:FuncId} {xs:List Od} {ats:Array Td} {R:Value->Wd->Prop}
def aoF {dst:Option Nat} {y:Od} {fs cs:LV} {vals:LV} {K:St->Wd->Prop} (hy:evF σ y=.func (.func f) fs.toArray cs.toArray) (hc:aQ P f (fs++vals++cs) w R) (hv:xs.map (evF σ)=vals)
    (h: ∀v w',R v w'->K (sj σ dst v) w') (he:qz P f:=by exact eT):NC P σ w ⟨dst,.call {callee:=.value y,args:=xs.toArray,argTypes:=ats},ty,pos,after,guard⟩ K:=by
  unfold NC
  have e:(execOp (evF σ) ⟨dst,.call {callee:=.value y,args:=xs.toArray,argTypes:=ats},ty,pos,after,guard⟩).run P w=.ok (.enter f (fs++vals++cs).toArray) w:=by
    simp[execOp,resolve,hy,Deferred.ofValue,invoke,hv];rw[<-he.run (fs++(vals++cs)).toArray w]
  rw[e];refine Calls.mono hc λen w'' hr=>?_;cases en with
  | returned v=>exact h v w'' hr
  | _=>exact hr.elim
def j4 (fB:dX n ops=true) (e:Nat) (pd':LNB) {d:Nat} {y:Od} {f:FuncId} {fs cs:LV} {vals:LV}
    (hy:evF σ y=.func (.func f) fs.toArray cs.toArray) (hc:aQ P f (fs++vals++cs) w R)
    (ho:ops[e]? =some ⟨some d,.call {callee:=.value y,args:=xs.toArray,argTypes:=ats},ty,pos,after,guard⟩:=by exact rfl)
    (hw:Region.wanted ⟨some d,.call {callee:=.value y,args:=xs.toArray,argTypes:=ats},ty,pos,after,guard⟩ (bY ops σ)=true:=by kernel_rfl) (hv:xs.map (evF σ)=vals:=by exact rfl) (dN:fE ops lv (pd.map (·.1)) e=true:=by kernel_rfl)
    (oH:pd.filter (λp=> !((above ops e).contains p.1))=pd':=by exact pD) (h: ∀v w',R v w'->jo P ops (upd σ d v) w' pd'/\FG P r n ops Q (lv.set e true) pd' (upd σ d v) w') (he:qz P f:=by exact eT):FG P r n ops Q lv pd σ w:=
  Dr fB ho dN hw pd' oH (aoF hy hc hv h)
def pX (fB:dX n ops=true) (e:Nat) (pd':LNB) {d:Nat} {y:Od} {f:FuncId} {fs cs:LV} {vals:LV}
    (hy:evF σ y=.func (.func f) fs.toArray cs.toArray) (hc:aQ P f (fs++vals++cs) w R)
    (ho:ops[e]? =some ⟨some d,.call {callee:=.value y,args:=xs.toArray,argTypes:=ats},ty,pos,after,guard⟩:=by exact rfl)
    (hw:Region.wanted ⟨some d,.call {callee:=.value y,args:=xs.toArray,argTypes:=ats},ty,pos,after,guard⟩ (bY ops σ)=true:=by kernel_rfl) (hv:xs.map (evF σ)=vals:=by exact rfl) (dN:ow ops lv (pd.map (·.1)) e=true:=by kernel_rfl)
    (oH:pd.filter (λp=> !((above ops e).contains p.1))=pd':=by exact pD) (h: ∀v w',R v w'->jo P ops (upd σ d v) w' pd'/\FG P r n ops Q (lv.set e true) pd' (upd σ d v) w') (he:qz P f:=by exact eT):pV P r n ops Q lv pd σ w e:=
  Oz fB ho dN hw pd' oH (aoF hy hc hv h)
variable {k:Int} {l:List bR}
open Go.Proofs.Tryz
section
attribute [local irreducible] FW FL FG FGn jJ jO fC lJ Qfn Gives
section
def Bv {α:Type} (k:Int) (l:List α) (a b:α):Prop:=(l=[a]/\a=b/\(k=10\/k=15\/k=16\/k=18))\/(l=[a,b]/\k≠10/\k≠15/\k≠16/\k≠18)
def Bv.any {α:Type} {l:List α} {a b:α} (h:Bv k l a b) (p:α->Bool):l.any p=(p a||p b):=by
 rcases h with⟨rfl,rfl,_⟩ | ⟨rfl,_⟩
 .simp
 simp
def Bv.get {α:Type} {l:List α} {a b:α} (h:Bv k l a b):l[0]? =some a/\l[l.length-1]? =some b/\0<l.length:=by
 rcases h with⟨rfl,rfl,_⟩ | ⟨rfl,_⟩
 .exact⟨rfl,rfl,sM⟩
 exact⟨rfl,rfl,sM⟩
def within (want:List Int) (t:bR):Bool:=want.any λy=>decide (t.kind=y)
section
variable {w:Wd}
def adw (t:bR):Rk prog 165 [agg (aD t)] w (.bool t.null):=by
 have H:=Sep.aH w;refine dh func165 ?_;refine Sr (bB H (cs:=aD t) rfl (h:=λb0 _ k _=>?_));refine V4 ?_;exact⟨rfl,k.kept⟩
def adx (t:bR):Rk prog 166 [agg (aD t)] w (.bool (!t.null)):=by
 have H:=Sep.aH w;refine dh func166 ?_;refine Sr (bB H (cs:=aD t) rfl (h:=λb0 _ k _=>?_));refine V3 ?_;refine Vv (Gives.not rfl) (V1 ?_);exact⟨rfl,k.kept⟩
def Zv {E:Td} {want:List Int} {vw:Value} (t:bR) (hb:w.heap[b]? =some (.cells #[vw] E (0,0))) (hw:aJ w vw intCells 1 want):Rk prog 163 [agg (aD t),.pointer (some ⟨b,0,none⟩)] w (.bool (!within want t)):=by
 have H:=Sep.aH w;refine bU func163 ?_;refine Sr (bB H (cs:=aD t) rfl (h:=λb0 _ k _=>?_));refine V1 ?_;refine dM (cs:=[vw]) (k.kept.get hb id) (h:=?_);refine Kz (Zu t.kind (hw.keep k.kept)) (λ_ k _=>?_);refine Vv (Gives.not rfl) (V1 ?_);exact⟨rfl,k.kept⟩
def yR {E:Td} {want:List Int} {vw vl:Value} (hb:w.heap[b]? =some (.cells #[vl] E (0,0))) (hl:aJ w vl aD 2 l) (hw:aJ w vw intCells 1 want):Rk prog 161 [vw,.pointer (some ⟨b,0,none⟩)] w (.bool (!(l.any λt=> !within want t))):=by
 have H:=Sep.aH w;have hwc:vw.cells= #[vw]:=by obtain⟨A,c,rfl,_⟩:=hw;rfl
 refine bU func161 ?_;refine Sr (bB H (cs:=[vw]) rfl hwc (h:=λb0 _ k _=>?_));refine V1 ?_;refine dM (cs:=[vl]) (k.kept.get hb id) (h:=?_);refine V1 ?_;have Et:=k.obj At0;have hpr:tC _ (.func (.func 163) #[] #[.pointer (some ⟨b0,0,none⟩)]) (λt=>agg (aD t)) (λt=> !within want t):=⟨163,[],[.pointer (some ⟨b0,0,none⟩)],rfl,eT,λt w'' hk=>Zv t (hk.get Et id) ((hw.keep k.kept).keep hk)⟩;refine Kz (Bt (hl.keep k.kept) hpr) (λ_ k _=>?_);refine Vv (Gives.not rfl) (V1 ?_);exact⟨rfl,k.kept⟩
end
def Bv.all {a b:bR} (h:Bv k l a b) (want:List Int):(!(l.any λt=> !within want t))=(within want a&&within want b):=by
 rw[h.any];cases within want a<;>cases within want b<;>rfl
def Qy {res:Option bR} {t:bR} {ok:Bool} (h1:ok=res.isSome) (h2: ∀y,res=some y->t=y): ∃t',Value.tuple #[agg (aD t),.bool ok]=.tuple #[agg (aD t'),.bool res.isSome]/\∀x,res=some x->t'=x:=
 ⟨t,by rw[h1],h2⟩
def Bw {P:Prop} [Decidable P] {t u:bR} {ok:Bool} (h1:ok=decide P) (h2:t=u): ∃t',Value.tuple #[agg (aD t),.bool ok]=.tuple #[agg (aD t'),.bool (if P then some u else none).isSome]/\∀x,(if P then some u else none)=some x->t'=x:=by
 refine Qy ?_ λy hy=>?_
 .rw[h1];by_cases hp:P
  .rw[zac hp,zap hp];rfl
  rw[zaa hp,zal hp];rfl
 by_cases hp:P
 .rw[zac hp]at hy;injection hy with hy;rw[h2,hy]
 rw[zaa hp]at hy;cases hy
def nY (k:Int) (t:bR):within [k] t=decide (t.kind=k):=by simp[within]
def MJ (j k:Int) (t:bR):within [j,k] t=decide (t.kind=j\/t.kind=k):=by simp[within]
def FM (P Q:Prop) [Decidable P] [Decidable Q]:(decide P&&decide Q)=decide (P/\Q):=by
 by_cases h1:P<;>by_cases h2:Q<;>simp[h1,h2]
section
variable {w:Wd}
theorem agm {a b:bR} {vl:Value} (hl:aJ w vl aD 2 l) (hs:Bv k l a b) (h7:7<=k) (h18:k<=18):aQ Tryz.prog 106 [I k,vl] w λv w'=>(∃t,v=.tuple #[agg (aD t),.bool (vW k a b).isSome]/\∀x,vW k a b=some x->t=x)/\Kept noB w w':=by
 have Fw:=hl;obtain⟨A,m,rfl,⟨hm,nX⟩,hA⟩:=hl;have H:=Sep.aH w;obtain⟨hga,_,Jb⟩:=hs.get;obtain⟨res,ak⟩: ∃res,res=vW k a b:=⟨_,rfl⟩;rw[<-ak];unfold vW at ak;have LW:=hs.any λt=>t.null
 have anx:(!(l.any λt=> !t.null))=(a.null&&b.null):=by
  rw[hs.any];cases a.null<;>cases b.null<;>rfl
 refine tN Tryz.func106 ?_;refine Sr (bB H (cs:=[.slice A l.length m]) rfl (h:=λb0 _ _ _=>?_));refine Az (λb1 _ S _=>?_);refine Kz (Bt (p:=λt=>t.null) (Fw.keep S.kept) ⟨165,[],[],rfl,eT,λt w'' _=>adw t⟩) (λ_ S _=>?_);rw[LW];refine Kz (Bt (p:=λt=> !t.null) (Fw.keep S.kept) ⟨166,[],[],rfl,eT,λt w'' _=>adx t⟩) (λ_ S _=>?_);refine Vv (Gives.not rfl) ?_;rw[anx];refine O2 ?_;refine Qn (uS (dB (λ_:Unit=>[(0,I k),(3,.pointer (some ⟨b0,0,none⟩)),(4,.pointer (some ⟨b1,0,none⟩)),(6,.func (.func 161) #[] #[.pointer (some ⟨b0,0,none⟩)]),(7,.bool (a.null||b.null)),(8,.bool (a.null&&b.null)),(15,I k),(16,.bool (decide (k=7\/k=8\/k=9\/k=10)))]) (λ_ w'=>Sep w noB [blk b1 [.int .i64 0,.bool false] 45,blk b0 [.slice A l.length m] 171] w') ?_ ?_))
 .refine Cz (λc=>?_) (λc=>?_)
  .refine V0 ?_
   exact au () ⟨rfl,rfl,rfl,rfl,rfl,rfl,rfl,zay Value.bool (zbf.2 oM),trivial⟩ S
  refine Cz (λc=>?_) (λc=>?_)
  .refine V0 ?_
   exact au () ⟨rfl,rfl,rfl,rfl,rfl,rfl,rfl,zay Value.bool (zbf.2 oM),trivial⟩ S
  refine Cz (λc=>?_) (λc=>?_)
  .refine V0 ?_
   exact au () ⟨rfl,rfl,rfl,rfl,rfl,rfl,rfl,zay Value.bool (zbf.2 oM),trivial⟩ S
  refine V2 ?_;exact au () ⟨rfl,rfl,rfl,rfl,rfl,rfl,rfl,zay Value.bool (zbf.2 oM),trivial⟩ S
 intro _ τ c c;refine Lp ?_;refine Cz (λS=>?_) (λS=>?_)
 .rw[zac S]at ak
  refine V1 ?_;refine Vb (aD ⟨3,a.null||b.null⟩) ?_;refine Mv ?_;refine nM c (xs:=[_]) (out:=([3]:List Int).flatMap intCells) ((eu.one rfl rfl eu.nil)) rfl rfl rfl (λbw _ d _=>?_);have Et:=d.obj At2;have YV:aJ _ (.slice (some ⟨bw,0,none⟩) 1 1) intCells 1 [3]:=⟨some ⟨bw,0,none⟩,1,rfl,⟨sM,oM⟩,Sep.lV d At0 rfl⟩;refine eY (vals:=[_]) rfl (yR Et (Fw.keep d.kept) YV) rfl rfl (λv' _ hv=>?_);obtain⟨rfl,cK⟩:=hv;have e:=d.keep cK;rw[hs.all];refine Tz (λ_ e=>?_);refine V1 ?_;exact⟨_,bF e,by rw[ak];exact Bw (by rw[nY,nY,FM]) rfl,e.kept⟩
 rw[zaa S]at ak;refine dB (λ_:Unit=>[(0,I k),(3,.pointer (some ⟨b0,0,none⟩)),(4,.pointer (some ⟨b1,0,none⟩)),(6,.func (.func 161) #[] #[.pointer (some ⟨b0,0,none⟩)]),(7,.bool (a.null||b.null)),(8,.bool (a.null&&b.null)),(15,I k),(26,.bool (decide (k=11\/k=12)))]) (λ_ w'=>Sep w noB [blk b1 [.int .i64 0,.bool false] 45,blk b0 [.slice A l.length m] 171] w') ?_ ?_
 .refine Cz (λe=>?_) (λe=>?_)
  .refine V0 ?_
   exact au () ⟨rfl,rfl,rfl,rfl,rfl,rfl,rfl,zay Value.bool (zbf.2 oM),trivial⟩ c
  refine V2 ?_;exact au () ⟨rfl,rfl,rfl,rfl,rfl,rfl,rfl,zay Value.bool (zbf.2 oM),trivial⟩ c
 intro _ τ e e;refine Lp ?_;refine Cz (λc=>?_) (λc=>?_)
 .rw[zac c]at ak
  refine V1 ?_;refine Vb (aD ⟨1,a.null||b.null⟩) ?_;refine V2 ?_;refine Vv (Gives.fA (i:=0) rfl rfl hA Jb) (V1 ?_);refine Vv (Gives.dG (i:=0) (f:=0) rfl e hA hga rfl) (nM e (xs:=[_]) (out:=([a.kind]:List Int).flatMap intCells) ((eu.one rfl rfl eu.nil)) rfl rfl rfl (λbw _ S _=>?_));have Et:=S.obj At2;have YV:aJ _ (.slice (some ⟨bw,0,none⟩) 1 1) intCells 1 [a.kind]:=⟨some ⟨bw,0,none⟩,1,rfl,⟨sM,oM⟩,Sep.lV S At0 rfl⟩;refine eY (vals:=[_]) rfl (yR Et (Fw.keep S.kept) YV) rfl rfl (λv' _ hv=>?_);obtain⟨rfl,cK⟩:=hv;have d:=S.keep cK;rw[hs.all];refine Tz (λ_ d=>?_);refine V1 ?_;exact⟨_,bF d,by rw[ak];exact Bw (by rw[nY,nY,FM];exact zbf.2 ⟨λh=>h.2.symm,λh=>⟨rfl,h.symm⟩⟩) rfl,d.kept⟩
 rw[zaa c]at ak;refine dB (λ_:Unit=>[(0,I k),(3,.pointer (some ⟨b0,0,none⟩)),(4,.pointer (some ⟨b1,0,none⟩)),(6,.func (.func 161) #[] #[.pointer (some ⟨b0,0,none⟩)]),(7,.bool (a.null||b.null)),(8,.bool (a.null&&b.null)),(15,I k),(38,.bool (decide (k=13\/k=14\/k=15)))]) (λ_ w'=>Sep w noB [blk b1 [.int .i64 0,.bool false] 45,blk b0 [.slice A l.length m] 171] w') ?_ ?_
 .refine Cz (λd=>?_) (λd=>?_)
  .refine V0 ?_
   exact au () ⟨rfl,rfl,rfl,rfl,rfl,rfl,rfl,zay Value.bool (zbf.2 oM),trivial⟩ e
  refine Cz (λd=>?_) (λd=>?_)
  .refine V0 ?_
   exact au () ⟨rfl,rfl,rfl,rfl,rfl,rfl,rfl,zay Value.bool (zbf.2 oM),trivial⟩ e
  refine V2 ?_;exact au () ⟨rfl,rfl,rfl,rfl,rfl,rfl,rfl,zay Value.bool (zbf.2 oM),trivial⟩ e
 intro _ τ d d;refine Lp ?_;refine Cz (λe=>?_) (λe=>?_)
 .rw[zac e]at ak
  refine V1 ?_;refine Vb (aD ⟨1,a.null||b.null⟩) ?_;refine Mv ?_;refine nM d (xs:=[_]) (out:=([1]:List Int).flatMap intCells) ((eu.one rfl rfl eu.nil)) rfl rfl rfl (λbw _ c _=>?_);have Et:=c.obj At2;have YV:aJ _ (.slice (some ⟨bw,0,none⟩) 1 1) intCells 1 [1]:=⟨some ⟨bw,0,none⟩,1,rfl,⟨sM,oM⟩,Sep.lV c At0 rfl⟩;refine eY (vals:=[_]) rfl (yR Et (Fw.keep c.kept) YV) rfl rfl (λv' _ hv=>?_);obtain⟨rfl,cK⟩:=hv;have S:=c.keep cK;rw[hs.all];refine Tz (λ_ S=>?_);refine V1 ?_;exact⟨_,bF S,by rw[ak];exact Bw (by rw[nY,nY,FM]) rfl,S.kept⟩
 rw[zaa e]at ak;refine Cz (λS=>?_) (λS=>?_)
 .rw[zac S]at ak
  refine Sr (Vb (aD ⟨1,false⟩) ?_);refine Tz (λ_ e=>?_);refine V1 ?_;exact⟨_,bF e,by rw[ak];exact Qy rfl (λy hy=>by injection hy),e.kept⟩
 rw[zaa S]at ak;refine Cz (λe=>?_) (λe=>?_)
 .rw[zac e]at ak
  refine Dz (λS _ c=>?_);refine V5 ?_;refine Gb S 5 (aD ⟨a.kind,a.null&&b.null⟩) ?_;refine V5 ?_;refine Gz S 11 [(6,true),(5,true),(4,true),(3,false),(2,true),(1,true),(0,false)] c ([a.kind].flatMap intCells) (h:=λbw _ c=>⟨ay (ay (ay ((bQ rfl kR (Gives.dG (i:=0) (f:=0) rfl c hA hga rfl) rfl (ay (ay (iL c (h:=eF)))))))),?_⟩);have Et:=c.obj At2;have YV:aJ _ (.slice (some ⟨bw,0,none⟩) 1 1) intCells 1 [a.kind]:=⟨some ⟨bw,0,none⟩,1,rfl,⟨sM,oM⟩,Sep.lV c At0 rfl⟩;refine j4 S 12 [(5,true),(4,true),(3,false),(2,true),(1,true),(0,false)] (y:=.tmp 58) (f:=161) (fs:=[]) (cs:=[.pointer (some ⟨b0,0,none⟩)]) (vals:=[.slice (some ⟨bw,0,none⟩) 1 1]) rfl (yR Et (Fw.keep c.kept) YV) (h:=λv' _ hv=>?_);obtain⟨rfl,cK⟩:=hv;have g:=c.keep cK;rw[hs.all];refine⟨ay (ay ((bQ rfl kR (Gives.dG (i:=0) (f:=0) rfl g hA hga rfl) rfl (ay (ay (iL g (h:=eF))))))),?_⟩;refine bM S 13 _ g (h:=λ_ g=>⟨sT,?_⟩);refine V1 ?_;exact⟨_,bF g,by rw[ak];exact Bw (by rw[nY,nY,FM];exact zbf.2 ⟨λh=>h.2.symm,λh=>⟨rfl,h.symm⟩⟩) rfl,g.kept⟩
 rw[zaa e]at ak;refine V1 ?_;refine Vb (aD ⟨3,a.null||b.null⟩) ?_;refine Mv ?_;refine nM d (xs:=[_,_]) (out:=([4,5]:List Int).flatMap intCells) ((eu.one rfl rfl (eu.one rfl rfl eu.nil))) rfl rfl rfl (λbw _ g _=>?_);have Et:=g.obj At2;have YV:aJ _ (.slice (some ⟨bw,0,none⟩) 2 2) intCells 1 [4,5]:=⟨some ⟨bw,0,none⟩,2,rfl,⟨sM,oM⟩,Sep.lV g At0 rfl⟩;refine eY (vals:=[_]) rfl (yR Et (Fw.keep g.kept) YV) rfl rfl (λv' _ hv=>?_);obtain⟨rfl,cK⟩:=hv;have e:=g.keep cK;rw[hs.all];refine Tz (λ_ e=>?_);refine V1 ?_
 have LU:a=b:=by
  rcases hs with⟨_,h,_⟩ | ⟨_,h⟩
  .exact h
  omega
 exact⟨_,bF e,by rw[ak];exact Bw (by rw[MJ,MJ,FM];exact zbf.2 (by rw[<-LU];simp)) rfl,e.kept⟩
end
def rE {P:Program} {args:LV} {v:Value} (h:Calls P f args.toArray w λe w'=>e=.returned v/\RowKit.Below w.heap.size w w'):Rk P f args w v:=
 Calls.mono h λe w' he=>by
  obtain⟨rfl,hb⟩:=he;exact⟨rfl,Kept.of_below hb⟩
def lH {args:LV} {v:Value} (h:Calls P f args.toArray w λe w'=>e=.returned v/\w'=w):aQ P f args w λv' w'=>v'=v/\w=w':=
 Calls.mono h λe w' he=>by
  obtain⟨rfl,hb⟩:=he;exact⟨rfl,hb.symm⟩
def ny (w:Wd):Prop:=Lib.Utf8Tabs 4 5 w
def ny.keep {w w':Wd} (h:ny w) (hk:Kept noB w w'):ny w':=Utf8Tabs_below h hk.below
def isP (k:Int) (c:aC):Bool:=
 if k=1 then decide (c.s=[]/\0<=c.n/\c.n<=1)
 else if k=2 then decide (c.s=[]/\ -2147483648<=c.n/\c.n<=2147483647)
 else if k=3 then decide (c.s=[]/\ -9223372036854775808<=c.n/\c.n<=9223372036854775807)
 else if k=4 then decide (c.n=0/\c.s.length<=1024)&&validD c.s
 else decide (c.n=0/\c.s.length<=1024)
def amA {c:aC} (hf:fits c.n):isP k c=isC k c:=by
 unfold isP isC
 split
 .rfl
 split
 .rfl
 split
 .exact zbf.2 ⟨λh=>h.1,λh=>⟨h,hf.1,hf.2⟩⟩
 split
 .by_cases h1:c.n=0/\c.s.length<=1024
  .rw[zap h1,zen]
   cases hv:validD c.s<;>simp[h1]
  rw[zal h1,zdx,eq_comm,decide_eq_false_iff_not];exact λh=>h1 ⟨h.1,h.2.1⟩
 rfl
def nT (f:FuncId):Value:=.func (.func f) #[] #[]
def kF1:LV:=[nT 249,nT 250,nT 251,nT 252]
def kF2:LV:=[nT 253,nT 254,nT 255,nT 256]
def kF4:LV:=[nT 259,nT 260,nT 261,nT 262]
def kF5:LV:=[nT 263,nT 264,nT 261,nT 262]
def Bz (k:Int):LV:=if k=1 then kF1 else if k=2\/k=3 then kF2 else if k=4 then kF4 else kF5
section
variable {w:Wd}
def KA (l:L8) (hl:l.length<=9223372036854775807) (hT:ny w):Rk prog 258 [str l] w (.bool (validD l)):=by
 have H:=Sep.aH w;refine dh func258 ?_;refine Kz (rE (Tryz.utf8_ValidString ⟨l.toArray⟩ _ (by rw[Mw.size_mk];exact hl) hT)) (λ_ k _=>?_);refine V1 ?_;exact⟨rfl,k.kept⟩
def ab0 (c:aC):Rk prog 248 [agg (ah c)] w (.bool (decide (c.n=0/\c.s.length<=1024))):=by
 have H:=Sep.aH w;refine dh func248 ?_;refine Sr (bB H (cs:=ah c) rfl (h:=λb0 _ k _=>?_));refine Sz (λS=>?_) (λS=>?_)
 .refine V6 ?_
  exact⟨zay Value.bool (zbf.2 oM),k.kept⟩
 refine V2 ?_;exact⟨zay Value.bool (by rw[eq_comm,decide_eq_false_iff_not];omega),k.kept⟩
def ady {b1 b2:Nat} {E1 E2:Td} {lo hi:Int} (c:aC) (h1:w.heap[b1]? =some (.cells #[I lo] E1 (0,0))) (h2:w.heap[b2]? =some (.cells #[I hi] E2 (0,0))):Rk prog 247 [agg (ah c),.pointer (some ⟨b1,0,none⟩),.pointer (some ⟨b2,0,none⟩)] w (.bool (decide (c.s=[]/\lo<=c.n/\c.n<=hi))):=by
 have H:=Sep.aH w;refine D9 func247 ?_;refine Sr (bB H (cs:=ah c) rfl (h:=λb0 _ k _=>?_));refine Sz (λS=>?_) (λS=>?_)
 .have hs:=S
  refine V2 ?_;refine dM (cs:=[I lo]) (k.kept.get h1 id) (h:=?_);refine Sz (λa=>?_) (λa=>?_)
  .have hn:=a
   refine V2 ?_;refine dM (cs:=[I hi]) (k.kept.get h2 id) (h:=?_);refine V3 ?_;exact⟨zay Value.bool (zbf.2 ⟨λh=>⟨hs,hn,h⟩,λh=>h.2.2⟩),k.kept⟩
  have hn:=a;refine V2 ?_;exact⟨zay Value.bool (Eq.symm (zal λh=>hn h.2.1)),k.kept⟩
 have hs:=S;refine V4 ?_;exact⟨zay Value.bool (Eq.symm (zal λh=>hs h.1)),k.kept⟩
def qH (lo hi:Int):aQ prog 246 [I lo,I hi] w λv w'=>∃p q:Nat,v=.func (.func 247) #[] #[.pointer (some ⟨p,0,none⟩),.pointer (some ⟨q,0,none⟩)]/\Turn noB (star (blk p [I lo] 2) (blk q [I hi] 2)) w w':=by
 have H:=Sep.aH w;refine bU func246 ?_;refine Sr (bB H (cs:=[I lo]) rfl (h:=λb0 _ k _=>?_));refine bB k (cs:=[I hi]) rfl (h:=λb1 _ k _=>?_);refine V3 ?_;exact⟨b0,b1,rfl,(k.aF.aR).turn⟩
def adz {E:Td} (c:aC) (hb:w.heap[b]? =some (.cells #[nT 248] E (0,0))) (hT:ny w):Rk prog 257 [agg (ah c),.pointer (some ⟨b,0,none⟩)] w (.bool (decide (c.n=0/\c.s.length<=1024)&&validD c.s)):=by
 have H:=Sep.aH w;refine bU func257 ?_;refine Sr (bB H (cs:=ah c) rfl (h:=λb0 _ k _=>?_));refine V1 ?_;refine dM (cs:=[nT 248]) (k.kept.get hb id) (h:=?_);refine V1 ?_;refine eY (f:=248) (fs:=[]) (cs:=[]) (vals:=[agg (ah c)]) rfl (ab0 c) rfl rfl (λv' _ hv=>?_);obtain⟨rfl,cK⟩:=hv;have S:=k.keep cK;refine Mv ?_;refine Sz (λk=>?_) (λk=>?_)
 .have hs:=k
  refine Kz (KA c.s oM (hT.keep S.kept)) (λ_ I _=>?_);refine V2 ?_;exact⟨zay Value.bool (by rw[zap hs,zen]),I.kept⟩
 have hs:=k;refine V2 ?_;exact⟨zay Value.bool (by rw[zal hs,zdx]),S.kept⟩
def pq (p q:Nat):Value:=.func (.func 247) #[] #[.pointer (some ⟨p,0,none⟩),.pointer (some ⟨q,0,none⟩)]
def five {α:Type} {l:List α} (h:l.length=5): ∃a b c d e,l=[a,b,c,d,e]:=by
 match l,h with
 | [a,b,c,d,e],_=>exact⟨a,b,c,d,e,rfl⟩
def Dg {ρ:Od->Value} {x1 x2 x3 x4 x5:Od} {r1 r2 r3 r4 r5:LV} (l1:r1.length=5) (l2:r2.length=5) (l3:r3.length=5) (l4:r4.length=5) (l5:r5.length=5)
    (h1:ρ x1=.agg r1.toArray) (h2:ρ x2=.agg r2.toArray) (h3:ρ x3=.agg r3.toArray) (h4:ρ x4=.agg r4.toArray) (h5:ρ x5=.agg r5.toArray):
    Fills (λi:Nat=>some (i*5,5)) ρ [(1,x1),(2,x2),(3,x3),(4,x4),(5,x5)] (List.replicate 30 .nilFunc) (List.replicate 5 .nilFunc++r1++r2++r3++r4++r5):=by
  obtain⟨a1,b1,c1,d1,e1,rfl⟩:=five l1;obtain⟨a2,b2,c2,d2,e2,rfl⟩:=five l2;obtain⟨a3,b3,c3,d3,e3,rfl⟩:=five l3;obtain⟨a4,b4,c4,d4,e4,rfl⟩:=five l4;obtain⟨a5,b5,c5,d5,e5,rfl⟩:=five l5;refine Fills.many rfl h1 (zbe rfl) rfl ?_;refine Fills.many rfl h2 (zbe rfl) rfl ?_;refine Fills.many rfl h3 (zbe rfl) rfl ?_;refine Fills.many rfl h4 (zbe rfl) rfl ?_;refine Fills.many rfl h5 (zbe rfl) rfl ?_;rfl
def yS (p1 q1 p2 q2 p3 q3 b2:Nat):LV:=List.replicate 5 .nilFunc++(pq p1 q1::kF1)++(pq p2 q2::kF2)++(pq p3 q3::kF2)++(Value.func (.func 257) #[] #[.pointer (some ⟨b2,0,none⟩)]::kF4)++(nT 248::kF5)
def EA {lo hi:Int} {p q:Nat} (h1:w.heap[p]? =some (.cells #[I lo] 2 (0,0))) (h2:w.heap[q]? =some (.cells #[I hi] 2 (0,0))) (hp: ∀c,isP k c=decide (c.s=[]/\lo<=c.n/\c.n<=hi)):tC w (pq p q) (λc=>agg (ah c)) (isP k):=
 ⟨247,[],[_,_],rfl,eT,λc w'' hk=>by rw[hp];exact ady c (hk.get h1 id) (hk.get h2 id)⟩
def adA {E:Td} (hb:w.heap[b]? =some (.cells #[nT 248] E (0,0))) (hT:ny w):tC w (.func (.func 257) #[] #[.pointer (some ⟨b,0,none⟩)]) (λc=>agg (ah c)) (isP 4):=
 ⟨257,[],[_],rfl,eT,λc w'' hk=>adz c (hk.get hb id) (hT.keep hk)⟩
def adB:tC w (nT 248) (λc=>agg (ah c)) (isP 5):=
 ⟨248,[],[],rfl,eT,λc w'' _=>ab0 c⟩
def Jp (k:Int):(Bz k).length=4:=by unfold Bz;(repeat' split)<;>rfl
def adC (k:Int):(Bz k).all Value.oneCell'=true:=by unfold Bz;(repeat' split)<;>rfl
theorem agn (t:bR) (h1:1<=t.kind) (h5:t.kind<=5) (hT:ny w):aQ Tryz.prog 180 [agg (aD t)] w λv w'=>(∃isF,v=agg (isF::Bz t.kind)/\tC w' isF (λc=>agg (ah c)) (isP t.kind))/\Kept noB w w':=by
 have H:=Sep.aH w;refine pE Tryz.func180 ?_;refine Sr (bB H (cs:=aD t) rfl (h:=λb0 _ _ _=>?_));refine Az (λb1 _ _ _=>?_);refine Az (λb2 _ _ _=>?_);refine Uz (λ_ _=>?_);refine Qn (dB (λx:Nat×Nat×Nat×Nat×Nat×Nat×Nat=>[(1,.pointer (some ⟨b0,0,none⟩)),(2,.pointer (some ⟨b1,0,none⟩)),(5,.pointer (some ⟨x.1,0,none⟩))]) (λx w'=>Sep w noB [blk x.1 (yS x.2.2.2.2.2.1 x.2.2.2.2.2.2 x.2.2.2.1 x.2.2.2.2.1 x.2.1 x.2.2.1 b2) 323,blk x.2.1 [I (-9223372036854775808)] 2,blk x.2.2.1 [I 9223372036854775807] 2,blk x.2.2.2.1 [I (-2147483648)] 2,blk x.2.2.2.2.1 [I 2147483647] 2,blk x.2.2.2.2.2.1 [I 0] 2,blk x.2.2.2.2.2.2 [I 1] 2,blk b2 [nT 248] 256,blk b1 (List.replicate 5 .nilFunc) 261,blk b0 (aD t) 45] w') ?_ ?_)
 .refine Dz (λk _ S=>?_)
  refine V1 ?_;refine Gm k 3 ?_;refine Gm k 6 ?_;refine Gp k 9 rfl rfl (λ_=>(Gives.makeFunc rfl rfl)) (Gb k 10 ((Value.func (.func 257) #[] #[.pointer (some ⟨b2,0,none⟩)])::kF4) ?_);refine V1 ?_;refine Gb k 12 ((nT 248)::kF5) ?_;refine jQ k (e1:=1) (e2:=14) kR ?_ ?_
  .refine pX k 1 [(12,true),(11,false),(10,true),(9,true),(6,true),(3,true)] (y:=.tmp 6) (f:=246) (fs:=[]) (cs:=[]) (vals:=[I 0,I 1]) rfl (qH 0 1) (h:=λv' _ hv=>?_)
   obtain⟨p1,q1,rfl,cK,F',hq,iC⟩:=hv;have a:=(S.new cK hq λb hb=>(iC b hb).resolve_left id).bE;refine⟨sL,?_⟩;refine Gb k 2 ((pq p1 q1)::kF1) ?_;refine jQ k (e1:=4) (e2:=14) kR ?_ ?_
   .refine pX k 4 [(2,true),(12,true),(11,false),(10,true),(9,true),(6,true)] (y:=.tmp 9) (f:=246) (fs:=[]) (cs:=[]) (vals:=[I (-2147483648),I 2147483647]) rfl (qH (-2147483648) 2147483647) (h:=λv' _ hv=>?_)
    obtain⟨p2,q2,rfl,cK,F',hq,iC⟩:=hv;have d:=(a.new cK hq λb hb=>(iC b hb).resolve_left id).bE;refine⟨sL,?_⟩;refine Gb k 5 ((pq p2 q2)::kF2) ?_;refine jQ k (e1:=7) (e2:=14) kR ?_ ?_
    .refine pX k 7 [(5,true),(2,true),(12,true),(11,false),(10,true),(9,true)] (y:=.tmp 12) (f:=246) (fs:=[]) (cs:=[]) (vals:=[I (-9223372036854775808),I 9223372036854775807]) rfl (qH (-9223372036854775808) 9223372036854775807) (h:=λv' _ hv=>?_)
     obtain⟨p3,q3,rfl,cK,F',hq,iC⟩:=hv;have g:=(d.new cK hq λb hb=>(iC b hb).resolve_left id).bE;refine⟨sL,?_⟩;refine Gb k 8 ((pq p3 q3)::kF2) ?_;refine Gp k 13 rfl rfl (λ_=>(Gives.Bu (out:=yS p1 q1 p2 q2 p3 q3 b2) rfl (Dg rfl rfl rfl rfl rfl rfl rfl rfl rfl rfl))) (r9 k 14 [(13,true),(8,true),(5,true),(2,true),(12,true),(11,false),(10,true),(9,true)] g (h:=λb5 _ g=>⟨sL,?_⟩));refine bM k 15 _ g (h:=λ_ g=>⟨sT,?_⟩);refine V0 ?_;exact au (b5,p3,q3,p2,q2,p1,q1) tR g
    refine jE k 14 [(5,true),(2,true),(12,true),(11,false),(10,true),(9,true),(6,true)] d (h:=λb5 _ g=>⟨sL,?_⟩);refine j4 k 7 [(5,true),(2,true),(12,true),(11,false),(10,true),(9,true)] (y:=.tmp 12) (f:=246) (fs:=[]) (cs:=[]) (vals:=[I (-9223372036854775808),I 9223372036854775807]) rfl (qH (-9223372036854775808) 9223372036854775807) (h:=λv' _ hv=>?_);obtain⟨p3,q3,rfl,cK,F',hq,iC⟩:=hv;have d:=(g.new cK hq λb hb=>(iC b hb).resolve_left id).bE;refine⟨sL,?_⟩;refine Gb k 8 ((pq p3 q3)::kF2) ?_;refine Gp k 13 rfl rfl (λ_=>(Gives.Bu (out:=yS p1 q1 p2 q2 p3 q3 b2) rfl (Dg rfl rfl rfl rfl rfl rfl rfl rfl rfl rfl))) (bM k 15 _ d (h:=λ_ d=>⟨sT,?_⟩));refine V0 ?_;exact au (b5,p3,q3,p2,q2,p1,q1) tR d.aO
   refine jE k 14 [(2,true),(12,true),(11,false),(10,true),(9,true),(6,true),(3,true)] a (h:=λb5 _ d=>⟨sL,?_⟩);refine j4 k 4 [(2,true),(12,true),(11,false),(10,true),(9,true),(6,true)] (y:=.tmp 9) (f:=246) (fs:=[]) (cs:=[]) (vals:=[I (-2147483648),I 2147483647]) rfl (qH (-2147483648) 2147483647) (h:=λv' _ hv=>?_);obtain⟨p2,q2,rfl,cK,F',hq,iC⟩:=hv;have a:=(d.new cK hq λb hb=>(iC b hb).resolve_left id).bE;refine⟨sL,?_⟩;refine Gb k 5 ((pq p2 q2)::kF2) ?_;refine j4 k 7 [(5,true),(2,true),(12,true),(11,false),(10,true),(9,true)] (y:=.tmp 12) (f:=246) (fs:=[]) (cs:=[]) (vals:=[I (-9223372036854775808),I 9223372036854775807]) rfl (qH (-9223372036854775808) 9223372036854775807) (h:=λv' _ hv=>?_);obtain⟨p3,q3,rfl,cK,F',hq,iC⟩:=hv;have d:=(a.new cK hq λb hb=>(iC b hb).resolve_left id).bE;refine⟨sL,?_⟩;refine Gb k 8 ((pq p3 q3)::kF2) ?_;refine Gp k 13 rfl rfl (λ_=>(Gives.Bu (out:=yS p1 q1 p2 q2 p3 q3 b2) rfl (Dg rfl rfl rfl rfl rfl rfl rfl rfl rfl rfl))) (bM k 15 _ d (h:=λ_ d=>⟨sT,?_⟩));refine V0 ?_;exact au (b5,p3,q3,p2,q2,p1,q1) tR d.gu
  refine jE k 14 [(12,true),(11,false),(10,true),(9,true),(6,true),(3,true),(0,true)] S (h:=λb5 _ d=>⟨sL,?_⟩);refine j4 k 1 [(12,true),(11,false),(10,true),(9,true),(6,true),(3,true)] (y:=.tmp 6) (f:=246) (fs:=[]) (cs:=[]) (vals:=[I 0,I 1]) rfl (qH 0 1) (h:=λv' _ hv=>?_);obtain⟨p1,q1,rfl,cK,F',hq,iC⟩:=hv;have S:=(d.new cK hq λb hb=>(iC b hb).resolve_left id).bE;refine⟨sL,?_⟩;refine Gb k 2 ((pq p1 q1)::kF1) ?_;refine j4 k 4 [(2,true),(12,true),(11,false),(10,true),(9,true),(6,true)] (y:=.tmp 9) (f:=246) (fs:=[]) (cs:=[]) (vals:=[I (-2147483648),I 2147483647]) rfl (qH (-2147483648) 2147483647) (h:=λv' _ hv=>?_);obtain⟨p2,q2,rfl,cK,F',hq,iC⟩:=hv;have d:=(S.new cK hq λb hb=>(iC b hb).resolve_left id).bE;refine⟨sL,?_⟩;refine Gb k 5 ((pq p2 q2)::kF2) ?_;refine j4 k 7 [(5,true),(2,true),(12,true),(11,false),(10,true),(9,true)] (y:=.tmp 12) (f:=246) (fs:=[]) (cs:=[]) (vals:=[I (-9223372036854775808),I 9223372036854775807]) rfl (qH (-9223372036854775808) 9223372036854775807) (h:=λv' _ hv=>?_);obtain⟨p3,q3,rfl,cK,F',hq,iC⟩:=hv;have S:=(d.new cK hq λb hb=>(iC b hb).resolve_left id).bE;refine⟨sL,?_⟩;refine Gb k 8 ((pq p3 q3)::kF2) ?_;refine Gp k 13 rfl rfl (λ_=>(Gives.Bu (out:=yS p1 q1 p2 q2 p3 q3 b2) rfl (Dg rfl rfl rfl rfl rfl rfl rfl rfl rfl rfl))) (bM k 15 _ S (h:=λ_ S=>⟨sT,?_⟩));refine V0 ?_;exact au (b5,p3,q3,p2,q2,p1,q1) tR S.lu
 rintro⟨b5,p3,q3,p2,q2,p1,q1⟩ τ S S;dsimp only at S;refine Lp ?_;refine Sr ?_;have htn:((t.kind.toNat:Nat):Int)=t.kind:=zcs oM
 obtain⟨isV,YQ,qF,tV⟩: ∃isV:Value,((t.kind=1/\isV=pq p1 q1)\/(t.kind=2/\isV=pq p2 q2)\/(t.kind=3/\isV=pq p3 q3)\/(t.kind=4/\isV=Value.func (.func 257) #[] #[.pointer (some ⟨b2,0,none⟩)])\/(t.kind=5/\isV=nT 248))/\isV.oneCell'=true/\((yS p1 q1 p2 q2 p3 q3 b2).drop (0+t.kind.toNat*5)).take 5=isV::Bz t.kind:=by
  rcases (by omega :t.kind=1\/t.kind=2\/t.kind=3\/t.kind=4\/t.kind=5)with e | e | e | e | e<;>rw[e]
  .exact⟨_,.inl ⟨rfl,rfl⟩,rfl,rfl⟩
  .exact⟨_,.inr (.inl ⟨rfl,rfl⟩),rfl,rfl⟩
  .exact⟨_,.inr (.inr (.inl ⟨rfl,rfl⟩)),rfl,rfl⟩
  .exact⟨_,.inr (.inr (.inr (.inl ⟨rfl,rfl⟩))),rfl,rfl⟩
  exact⟨_,.inr (.inr (.inr (.inr ⟨rfl,rfl⟩))),rfl,rfl⟩
 refine Vf ?_;refine V1 ?_;refine Vv (Gives.BO (i:=t.kind.toNat) rfl (by rw[htn];rfl) oM) ?_;refine Gi (us:=isV::Bz t.kind) (o:=0+t.kind.toNat*5) (b:=b5) S (hx:=by rw[<-Addr.add_lit];rfl) (hat:=by exact aT) (hu:=tV) (hk:=by rw[zaq,Jp]) (h:=?_);refine iB S (us:=isV::Bz t.kind) (hk:=by rw[zaq,Jp]) (hv:=by rw[List.all_cons,qF,adC];rfl) (h:=λ_ S=>?_);refine V0 ?_;refine⟨_,fG S (hk:=by rw[zaq,Jp]),⟨isV,rfl,?_⟩,S.kept⟩
 rcases YQ with⟨e,rfl⟩ | ⟨e,rfl⟩ | ⟨e,rfl⟩ | ⟨e,rfl⟩ | ⟨e,rfl⟩<;>rw[e]
 .exact EA (by first | exact S.obj At0 | exact S.obj At2 | exact S.obj At4 | exact S.obj At1 | exact S.obj At3 | exact S.obj At5 | exact S.obj At6 | exact S.obj At7) (by first | exact S.obj At0 | exact S.obj At2 | exact S.obj At4 | exact S.obj At1 | exact S.obj At3 | exact S.obj At5 | exact S.obj At6 | exact S.obj At7) (λc=>rfl)
 .exact EA (by first | exact S.obj At0 | exact S.obj At2 | exact S.obj At4 | exact S.obj At1 | exact S.obj At3 | exact S.obj At5 | exact S.obj At6 | exact S.obj At7) (by first | exact S.obj At0 | exact S.obj At2 | exact S.obj At4 | exact S.obj At1 | exact S.obj At3 | exact S.obj At5 | exact S.obj At6 | exact S.obj At7) (λc=>rfl)
 .exact EA (by first | exact S.obj At0 | exact S.obj At2 | exact S.obj At4 | exact S.obj At1 | exact S.obj At3 | exact S.obj At5 | exact S.obj At6 | exact S.obj At7) (by first | exact S.obj At0 | exact S.obj At2 | exact S.obj At4 | exact S.obj At1 | exact S.obj At3 | exact S.obj At5 | exact S.obj At6 | exact S.obj At7) (λc=>rfl)
 .exact adA (by first | exact S.obj At7 | exact S.obj At6 | exact S.obj At5 | exact S.obj At4) (hT.keep S.kept)
 exact adB
end
attribute [local irreducible] oD isP Bz
section
variable {w:Wd}
def agp {t:bR}:oD t=true↔1<=t.kind/\t.kind<=5:=by unfold oD;exact decide_eq_true_iff
def uo (t:bR) (c:aC) (hf:fits c.n) (hT:ny w):Rk Tryz.prog 125 [agg (aD t),agg (ah c)] w (I (gL t c)):=by
 have H:=Sep.aH w;obtain⟨res,ak⟩: ∃res,res=gL t c:=⟨_,rfl⟩;rw[<-ak];unfold gL at ak;refine bU Tryz.func125 ?_;refine Sr (bB H (cs:=aD t) rfl (h:=λb0 _ k _=>?_));refine bB k (cs:=ah c) rfl (h:=λb1 _ _ _=>?_);refine Kz (zS t) (λ_ k _=>?_);refine O2 ?_;refine Qn (Cd rfl (λS=>?_) (λS=>?_))
 .have hm:oD t=false:=by have h:=S;revert h;cases oD t<;>simp
  rw[zac hm]at ak;refine V1 ?_;exact⟨by rw[ak];rfl,k.kept⟩
 have hm:oD t=true:=by have h:=S;revert h;cases oD t<;>simp
 rw[zaa (by rw[hm];simp)]at ak;obtain⟨h1,h5⟩:=agp.1 hm;refine V3 ?_;refine dL (t:=12) rfl (λS=>?_) (λS=>?_)
 .have YW:c.null=true:=S
  rw[zac YW]at ak;refine V4 ?_;refine dL (t:=16) rfl (λa=>?_) (λa=>?_)
  .have htn:t.null=false:=by have h:=a;revert h;cases t.null<;>simp
   rw[zaa (by rw[htn];simp)]at ak;refine V4 ?_;exact⟨by rw[ak];rfl,k.kept⟩
  have htn:t.null=true:=by have h:=a;revert h;cases t.null<;>simp
  refine V1 ?_;refine Vb (ah bK) ?_;refine On (Vv (Gives.akK (enc:=ah) _ _ rfl rfl) (Cz (λa=>?_) (λa=>?_)))
  .rw[zaa (λh=>a h.2)]at ak
   refine Sk (dV (zay Value.bool (zap a)) ?_);refine V1 ?_;exact⟨by rw[ak];rfl,k.kept⟩
  rw[zac ⟨htn,zcq.1 a⟩]at ak;refine Dz (λa _ k=>?_);refine V4 ?_;refine GN (t:=25) rfl (λb=>?_) (λb=>?_)
  .exact zas b (by rw[YW];simp)
  refine Rl a 4 rfl rfl kR ?_;refine Rl a 7 rfl rfl kR ?_;refine Rl a 5 rfl rfl kR ?_;refine Rl a 6 rfl rfl kR ?_;refine Rl a 8 rfl rfl kR ?_;refine V3 ?_;exact⟨by rw[ak];rfl,k.kept⟩
 have YW: ¬c.null=true:=by have h:=S;simpa using h
 rw[zaa YW,<-amA hf]at ak;refine Dz (λb _ k=>?_);refine V4 ?_;refine GN (t:=25) rfl (λa=>?_) (λa=>?_)
 .refine V1 ?_
  refine jU b 7 k (h:=?_);refine p8 b 5 [(7,false)] rfl kR (agn t h1 h5 (hT.keep k.kept)) rfl kR kR (λv' _ hv=>?_);obtain⟨⟨isF,rfl,hp⟩,cK⟩:=hv;obtain⟨f,fs,cs,rfl,Fe,qY⟩:=hp;have S:=k.keep cK;refine⟨(bQ rfl kR (Gives.Ky rfl (S.obj At0) (us:=ah c) rfl rfl) rfl (eF)),?_⟩;refine V1 ?_;refine j4 b 8 _ (y:=.tmp 28) (f:=f) (fs:=fs) (cs:=cs) (vals:=[agg (ah c)]) rfl (qY c _ (Kept.refl _ _)) (h:=λv' _ hv=>?_);obtain⟨rfl,anz⟩:=hv;have k:=S.keep anz;refine⟨sT,?_⟩;refine O3 ?_;refine fO b kR ?_;refine iK (Cd rfl (λS=>?_) (λS=>?_))
  .rw[zaa (by have h:=S;revert h;cases isP t.kind c<;>simp)]at ak
   refine V1 ?_;exact⟨by rw[ak];rfl,k.kept⟩
  rw[zac (by have h:=S;revert h;cases isP t.kind c<;>simp)]at ak;refine V1 ?_;exact⟨by rw[ak];rfl,k.kept⟩
 exact zas (show c.null=true by have h:=a;revert h;cases c.null<;>simp) YW
end
end
end
section
section gives
variable {P:Program} {ρ:Od->Value} {ty:Td} {w:Wd} {x y:Od} {T U:Td} {k:IntKind} {a b:Int}
def Gives.andNot (hx:ρ x=.int k a) (hy:ρ y=.int k b):Gives P ρ (.binOp .andNot T x y U) ty w (.int k (bits .andNot k a b)) w:=.bin hx hy (λ_ _=>rfl) (by rw[binOp_andNot];rfl)
end gives
end
section
attribute [local irreducible] FW FL FG FGn jJ jO fC lJ Qfn Gives
def Ws {y:Nat} (hy:y<18446744073709551616):y&&& 18446744073709551614=0↔y<=1:=by
 constructor
 .intro h
  have h1:=Nat.and_div_two (a:=y) (b:=18446744073709551614);rw[h,show 18446744073709551614/2=2^63-1 from dC,Nat.and_two_pow_sub_one_eq_mod]at h1;have h2:y/2%2^63=y/2:=Nat.mod_eq_of_lt oM;omega
 intro h
 rcases (by omega :y=0\/y=1)with rfl | rfl<;>decide
def ab1 {n:Int} (hf:fits n):bits .andNot .i64 n 1=0↔0<=n/\n<=1:=by
 obtain⟨h0,h1⟩:=hf;show IntKind.i64.wrap ((BitVec.ofInt 64 n&&& ~~~BitVec.ofInt 64 1).toNat:Int)=0↔_
 have e1:(BitVec.ofInt 64 1).toNat=1:=dC;have e2:(BitVec.ofInt 64 n).toNat=(n%18446744073709551616).toNat:=BitVec.toNat_ofInt n;have aX:(n%18446744073709551616).toNat<18446744073709551616:=oM;rw[BitVec.toNat_and,BitVec.toNat_not,e1,e2,show 2^64-1-1=18446744073709551614 from dC,IntKind.wrap_i64];have rW:(n%18446744073709551616).toNat&&& 18446744073709551614<=(n%18446744073709551616).toNat:=Nat.and_le_left;have key:=Ws aX;constructor
 .intro h
  have :(n%18446744073709551616).toNat&&& 18446744073709551614=0:=by omega
  have:=key.1 this;omega
 intro h;rw[key.2 oM]
 decide
def MK {s:L8}:gL ⟨4,false⟩ ⟨false,0,s⟩=0↔s.length<=1024/\validD s=true:=by
 have e:gL ⟨4,false⟩ ⟨false,0,s⟩=if decide ((0:Int)=0/\s.length<=1024/\validD s=true)=true then 0 else 90:=rfl
 rw[e]
 by_cases h:s.length<=1024/\validD s=true
 .rw[zac (zap ⟨rfl,h⟩)];exact⟨λ_=>h,λ_=>rfl⟩
 rw[zaa (by rw[decide_eq_true_eq];exact λe=>h e.2)];exact⟨λe=>zas e dC,λe=>zas e h⟩
def KC {s:L8}:gL ⟨5,false⟩ ⟨false,0,s⟩=0↔s.length<=1024:=by
 have e:gL ⟨5,false⟩ ⟨false,0,s⟩=if decide ((0:Int)=0/\s.length<=1024)=true then 0 else 90:=rfl
 rw[e]
 by_cases h:s.length<=1024
 .rw[zac (zap ⟨rfl,h⟩)];exact⟨λ_=>h,λ_=>rfl⟩
 rw[zaa (by rw[decide_eq_true_eq];exact λe=>h e.2)];exact⟨λe=>zas e dC,λe=>zas e h⟩
def alK:fits 0:=⟨dC,dC⟩
def Wt:oG k≠[]↔k=1\/(3<=k/\k<=5):=by
 unfold oG
 split
 .simp[*]
 split
 .simp[*]
 split
 .simp[*]
 split
 .simp[*]
 simp;omega
attribute [local irreducible] gL oG
section
variable {w:Wd}
def Zw (x:bL) (hf:fits x.n) (hT:ny w):Rk Tryz.prog 104 [agg (aN x)] w (.bool (dU x)):=by
 have H:=Sep.aH w;obtain⟨res,ak⟩: ∃res,res=dU x:=⟨_,rfl⟩;rw[<-ak];unfold dU at ak;refine dh Tryz.func104 ?_;refine Sr (bB H (cs:=aN x) rfl (h:=λb0 _ _ _=>?_));refine Dz (λ_ _ k=>?_);refine Cz (λS=>?_) (λS=>?_)
 .rw[zac S]at ak
  refine Sz (λI=>?_) (λI=>?_)
  .have hA:=I
   refine Sz (λa=>?_) (λa=>?_)
   .have hB:=a
    refine V5 ?_;exact⟨zay Value.bool (by rw[ak];exact zbf.2 ⟨λh=>⟨hA,hB,h⟩,λh=>h.2.2⟩),k.kept⟩
   have hB:=a;refine V2 ?_;exact⟨zay Value.bool (by rw[ak];exact Eq.symm (zal λh=>hB h.2.1)),k.kept⟩
  have hA:=I;refine V4 ?_;exact⟨zay Value.bool (by rw[ak];exact Eq.symm (zal λh=>hA h.1)),k.kept⟩
 rw[zaa S]at ak;refine Cz (λa=>?_) (λa=>?_)
 .rw[zac a]at ak
  refine V2 ?_;exact⟨by rw[ak];rfl,k.kept⟩
 rw[zaa a]at ak;refine Cz (λa=>?_) (λa=>?_)
 .rw[zac a]at ak
  refine Sz (λI=>?_) (λI=>?_)
  .have hA:=I
   refine V2 ?_;refine Vv (Gives.andNot rfl rfl) (V3 ?_);exact⟨zay Value.bool (by rw[ak];exact zbf.2 ⟨λh=>⟨hA,(ab1 hf).1 h⟩,λh=>(ab1 hf).2 h.2⟩),k.kept⟩
  have hA:=I;refine V2 ?_;exact⟨zay Value.bool (by rw[ak];exact Eq.symm (zal λh=>hA h.1)),k.kept⟩
 rw[zaa a]at ak;refine Cz (λI=>?_) (λI=>?_)
 .rw[zac I]at ak
  refine Sz (λa=>?_) (λa=>?_)
  .have hA:=a
   refine On (Vb (aD ⟨4,false⟩) ?_);refine V2 ?_;refine Vb (ah ⟨false,0,x.s⟩) ?_;refine On (Kz (uo ⟨4,false⟩ ⟨false,0,x.s⟩ alK (hT.keep k.kept)) (λ_ S _=>?_));refine V3 ?_;exact⟨zay Value.bool (by rw[ak];exact zbf.2 ⟨λh=>⟨hA,MK.1 h⟩,λh=>MK.2 h.2⟩),S.kept⟩
  have hA:=a;refine V2 ?_;exact⟨zay Value.bool (by rw[ak];exact Eq.symm (zal λh=>hA h.1)),k.kept⟩
 rw[zaa I]at ak;refine Cz (λS=>?_) (λS=>?_)
 .rw[zac S]at ak
  refine Sz (λa=>?_) (λa=>?_)
  .have hA:=a
   refine On (Vb (aD ⟨5,false⟩) ?_);refine V2 ?_;refine Vb (ah ⟨false,0,x.s⟩) ?_;refine On (Kz (uo ⟨5,false⟩ ⟨false,0,x.s⟩ alK (hT.keep k.kept)) (λ_ I _=>?_));refine V3 ?_;exact⟨zay Value.bool (by rw[ak];exact zbf.2 ⟨λh=>⟨hA,KC.1 h⟩,λh=>KC.2 h.2⟩),I.kept⟩
  have hA:=a;refine V2 ?_;exact⟨zay Value.bool (by rw[ak];exact Eq.symm (zal λh=>hA h.1)),k.kept⟩
 rw[zaa S]at ak;refine Cz (λI=>?_) (λI=>?_)
 .rw[zac I]at ak
  refine Sz (λa=>?_) (λa=>?_)
  .have hA:=a
   refine Kz (TI x.n) (λ_ S _=>?_);refine Sz (λb=>?_) (λb=>?_)
   .have hB:=b
    refine V7 ?_;exact⟨zay Value.bool (by rw[ak];exact zbf.2 ⟨λ_=>⟨hA,Wt.1 hB⟩,λ_=>trivial⟩),S.kept⟩
   have hB:=b;refine V2 ?_;exact⟨zay Value.bool (by rw[ak];exact Eq.symm (zal λh=>hB (Wt.2 h.2))),S.kept⟩
  have hA:=a;refine V4 ?_;exact⟨zay Value.bool (by rw[ak];exact Eq.symm (zal λh=>hA h.1)),k.kept⟩
 rw[zaa I]at ak;refine Sz (λb=>?_) (λb=>?_)
 .have hA:=b
  refine Sz (λS=>?_) (λS=>?_)
  .have hB:=S
   refine Sz (λa=>?_) (λa=>?_)
   .have hC:=a
    refine V3 ?_;exact⟨zay Value.bool (by rw[ak];exact zbf.2 ⟨λh=>⟨hA,hB,h,hC⟩,λh=>h.2.2.1⟩),k.kept⟩
   have hC:=a;refine V2 ?_;exact⟨zay Value.bool (by rw[ak];exact Eq.symm (zal λh=>hC h.2.2.2)),k.kept⟩
  have hB:=S;refine V4 ?_;exact⟨zay Value.bool (by rw[ak];exact Eq.symm (zal λh=>hB h.2.1)),k.kept⟩
 have hA:=b;refine V6 ?_;exact⟨zay Value.bool (by rw[ak];exact Eq.symm (zal λh=>hA h.1)),k.kept⟩
end
end
end Go.Proofs.Mw
