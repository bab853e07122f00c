/-
 Structs are written into rows that are owned;the law ExprUnused,walked.
-/
import Derived.Test.YtkfpleidaoaonaaGreatDoorNu1
import Derived.Test.YtkfpleidaoaonaaGreatDoorNu13
import Derived.Test.YtkfpleidaoaonaaGreatDoorNu6
import Derived.Test.YtkfpleidaoaonaaGreatDoorNu3
import Derived.Test.YtkfpleidaoaonaaGreatDoorShelf
import Derived.Laws.Bits64b
import Derived.Test.YtkfpleidaoaonaaGreatDoorNu7
import Derived.Sort.Defs
set_option linter.unusedVariables false
set_option linter.unusedSimpArgs false
namespace Go.Mw
open Go.RowKit
section
variable {P:Program} {r:Option Nat} {n:Nat} {ops:AO} {Q:Post} {rest:LO} {σ:St} {w w0:Wd} {S:NP} {rs:List HP} {put:HP->List HP} {ty:Td} {pos:String} {after:Array Edge} {lv:List Bool} {pd:LNB} {guard:Option (Nat×Bool)}
variable {α:Type} {enc:α->LV} {k e c:Nat} {l:List α} {A:OA}
theorem RB (hk: ∀x,(enc x).length=k) (a':α): ∀{l:List α} {i:Nat},i<l.length->(l.flatMap enc).take (i*k)++enc a'++(l.flatMap enc).drop (i*k+k)=(l.set i a').flatMap enc
 | [],_,h=>zat h sM
 | x::l,0,_=>by
  rw[Nat.zero_mul,zdo,zbr,zds,zeg,zbg,zbg,List.drop_left' (hk x)]
 | x::l,i+1,h=>by
  have ih:=RB hk a' (l:=l) (i:=i) (by simpa using h);have hx:=hk x;rw[zgf,zbg,zbg,List.take_append,zaf (by rw[hx,zea];omega),List.drop_append,zca (by rw[hx,zea];omega),hx,show(i+1)*k-k=i*k by rw[zea];omega,show(i+1)*k+k-k=i*k+k by rw[zea];omega,zbr,zbs,zbs,<-zbs ((l.flatMap enc).take (i*k)),ih]
theorem UY {ρ:Od->Value} {x y:Od} {T:Td} [h1:Agg P T k] [hk:lY enc k] {i:Nat} (a':α) {m:Nat} (hm:m=l.length) (H:Sep w0 S rs w) (hat:At rs (bW e k enc (.slice A m c) l) put) (hi:i<l.length) (hx:ρ x=adr A (i*k)) (hy:ρ y=.agg (enc a').toArray) (hv:(enc a').all Value.oneCell'=true):
    ∃w',Qy P ρ (.store T x y) ty w w'/\Sep w0 S (put (bW e k enc (.slice A m c) (l.set i a'))) w':=by
  subst hm;obtain⟨F,hp,hS,nA⟩:=H.focus hat;have H0:=Sep.dZ hp;obtain⟨g,c',rest,hvv,hlen,hxl,qQ,Zq,H1⟩:=H0.acJ At0 oM;injection hvv with hA _ hc
  subst hA;subst hc;have hb:=H1.obj At0;have Fy:=mJ hk.len l;have hu:(enc a').length=k:=hk.len a';have ZA:(i+1)*k<=l.length*k:=Nat.mul_le_mul_right k hi;rw[zea]at ZA;have gQ:=run_storeCells_at P g (i*k) e (enc a') 0 (l.flatMap enc++rest).toArray w hb (by simp only[zfo,zad,Fy,hu];omega) (λu hu=>zaz.1 hv u hu)
  have hs:(l.flatMap enc++rest).take (i*k)++enc a'++(l.flatMap enc++rest).drop (i*k+(enc a').length)=(l.set i a').flatMap enc++rest:=by
    rw[hu,zej (by rw[Fy];omega),zfe (by rw[Fy];omega),<-RB hk.len a' hi];simp only[zbs]
  have eB:Kept (λz=>z=g) w (w.setRow g ((l.set i a').flatMap enc++rest).toArray):=⟨rfl,rfl,rfl,sM,λj hj hS=>by simp only[World.setRow,zdb];rw[zab (λe=>hS e.symm)]⟩
  have MO:(w.setRow g ((l.set i a').flatMap enc++rest).toArray).heap[g]? =some (.cells ((l.set i a').flatMap enc++rest).toArray e (0,0)):=by
    simp only[World.setRow,zdb,if_true,hb,zdf]
  have H3:Sep w F [blk g ((l.set i a').flatMap enc++rest) e] _:=H1.setObj (At0 (p:=blk g (l.flatMap enc++rest) e) (l:=[])) eB MO;have abR:=mJ hk.len (l.set i a');rw[zgh]at abR;have H4:=H3.acK (n:=l.length) (c:=c) At0 (by rw[zad,abR];rw[zad,Fy]at hlen;exact hlen) abR qQ Zq;refine⟨w.setRow g ((l.set i a').flatMap enc++rest).toArray,λ_ _ _ _=>?_,?_⟩
  . have Kk:ρ x=.pointer (some ⟨g,i*k,none⟩):=by rw[hx];show Value.pointer (some (Addr.add ⟨g,0,none⟩ (i*k)))=_;rw[Addr.add_lit,zds]
    have afx:=gQ;simp only[zfj]at afx;rw[hs]at afx;simp[execOp,Kk,hy,Instr.storeAt,Instr.sureAddr,storeVar,h1.size,Value.cells,hu];rw[afx];simp
  obtain⟨h5,F5,h6,h7⟩:=H4;refine nA _ F5 _ h5 ?_ λb hb=>h7 b hb;have h8:=EL.1 h6;show(CJ e k (.slice (some ⟨g,0,none⟩) l.length c) (l.set i a').length ((l.set i a').flatMap enc)).ok F5 _
  rw[zgh];exact h8
theorem KG (gT:fT n ops=true) (o:Nat) (pd':LNB) {x y:Od} {T:Td} [h1:Agg P T k] [hk:lY enc k] {i:Nat} (a':α) {m:Nat} (hm:m=l.length) (H:Sep w0 S rs w) (hat:At rs (bW e k enc (.slice A m c) l) put) (hi:i<l.length) (hv:(enc a').all Value.oneCell'=true)
    (ho:ops[o]? =some ⟨none,.store T x y,ty,pos,after,guard⟩:=by exact rfl)
    (hw:Region.wanted ⟨none,.store T x y,ty,pos,after,guard⟩ (eD ops σ)=true:=by kernel_rfl) (hx:evF σ x=adr A (i*k):=by exact rfl) (hy:evF σ y=.agg (enc a').toArray:=by exact rfl)
    (fq:gY ops lv (pd.map (·.1)) o=true:=by kernel_rfl) (rC:pd.filter (λp=> !((above ops o).contains p.1))=pd':=by exact pD)
    (h: ∀w',Sep w0 S (put (bW e k enc (.slice A m c) (l.set i a'))) w'->mI P ops σ w' pd'/\FG P r n ops Q (lv.set o true) pd' σ w'):FG P r n ops Q lv pd σ w:=
  XW gT o pd' ho hw (UY a' hm H hat hi hx hy hv) fq rC h
end
end Go.Mw
namespace Go.Proofs.YtkfpleidaoaonaaGreatDoor
open Go Go.Mw Go.Lib
set_option maxRecDepth 4000
theorem LX.set {m i:Nat} {r:List aI} {c:aI} (h:LX m r) (hc:fits c.n/\∀b,okC (acf b i).type c):LX m (r.set i c):=by
 refine⟨by rw[zgh];exact h.len,λy hy=>?_,λb j d hd=>?_⟩
 .rcases List.mem_or_eq_of_mem_set hy with h1 | h1
  .exact h.fit y h1
  rw[h1];exact hc.1
 by_cases hj:i=j
 .subst hj
  rw[List.getElem?_set_self']at hd;cases hg:r[i]? with
  | none=>rw[hg]at hd;cases hd
  | some z=>rw[hg]at hd;simp at hd;rw[<-hd];exact hc.2 b
 rw[List.getElem?_set_ne hj]at hd;exact h.ok b j d hd
section
variable {w:Wd}
end
end Go.Proofs.YtkfpleidaoaonaaGreatDoor
namespace Go.Proofs.YtkfpleidaoaonaaGreatDoor
open Go Go.Mw Go.Lib
set_option maxRecDepth 4000
section
variable {w:Wd}
end
def hi0 (k a b:Int):Int:=if k=8 then a/4294967296-b/4294967296 else a/4294967296+b/4294967296
section
variable {w:Wd}
end
section
variable {w:Wd}
end
section
variable {w:Wd}
end
end Go.Proofs.YtkfpleidaoaonaaGreatDoor
namespace Go.Mw
open Go.RowKit
section
variable {P:Program} {r:Option Nat} {n:Nat} {ops:AO} {Q:Post} {rest:LO} {σ:St} {w w0:Wd} {S:NP} {rs:List HP} {put:HP->List HP} {ty:Td} {pos:String} {after:Array Edge} {lv:List Bool} {pd:LNB} {guard:Option (Nat×Bool)}
theorem l9 (gT:fT n ops=true) (e:Nat) (pd':LNB) {d:Nat} {f:FuncId} {xs:List Od} {ats:Array Td} {vals:LV} {α:Type} {val:α->Value} {φ:α->Prop} {q:α->HP} [he:bC P f] (H:Sep w0 S rs w)
    (hc:aN P f vals w λv w'=>∃x,v=val x/\φ x/\Turn noB (q x) w w')
    (ho:ops[e]? =some ⟨some d,.call {callee:=.value (.func f),args:=xs.toArray,argTypes:=ats},ty,pos,after,guard⟩:=by exact rfl)
    (hw:Region.wanted ⟨some d,.call {callee:=.value (.func f),args:=xs.toArray,argTypes:=ats},ty,pos,after,guard⟩ (eD ops σ)=true:=by kernel_rfl) (hv:xs.map (evF σ)=vals:=by exact rfl) (fq:rR ops lv (pd.map (·.1)) e=true:=by kernel_rfl)
    (rC:pd.filter (λp=> !((above ops e).contains p.1))=pd':=by exact pD) (h: ∀x w',φ x->Sep w0 S (q x::rs) w'->Kept noB w w'->mI P ops (upd σ d (val x)) w' pd'/\FG P r n ops Q (lv.set e true) pd' (upd σ d (val x)) w'):tZ P r n ops Q lv pd σ w e:=by
  refine aeV gT e pd' ho hw hc hv fq rC λv' w' ⟨x,h1,hφ,hk,F',hq,hs⟩=>?_;subst h1;exact h x w' hφ (H.new hk hq λb hb=>(hs b hb).resolve_left id) hk
end
end Go.Mw
namespace Go.Mw
open Go.RowKit
section
variable {P:Program} {r:Option Nat} {n:Nat} {ops:AO} {Q:Post} {rest:LO} {σ:St} {w w0:Wd} {S:NP} {rs:List HP} {put:HP->List HP} {ty:Td} {pos:String} {after:Array Edge} {lv:List Bool} {pd:LNB} {guard:Option (Nat×Bool)}
theorem Gives.ak4 {ρ:Od->Value} {x y:Od} {t e:Td} [hs:dD P t e] {size bytes:Nat} [hc:Cells P e size bytes] {z:Value} [hz:Zero P e z] {k:Nat} {cs:LV} (hx:ρ x=.int .i64 k) (hy:ρ y=.int .i64 k) (hcs:madeCells z.cells (k*size)=cs.toArray) (hb:bytes*k<=281474976710656) (hk:k<=maxLen):
    Gives P ρ (.makeSlice t x y) ty w (.slice (some ⟨w.heap.size,0,none⟩) k k) (w.alloc (.cells cs.toArray e)):=λ_ _ _ _=>by
  obtain⟨i,hi,uD⟩:=zbb.1 hc.size;simp only[Prod.mk.injEq]at uD
  have yT:i.zero=some z:=by
    have:=hz.run w;simp[zeroValue,typeInfo,hi]at this;cases hq:i.zero with
    | none=>simp[hq]at this
    | some u=>simp[hq]at this;rw[this]
  have jG:=run_make (P:=P) w t e i z hs.und hi yT .i64 .i64 (k:Int) (k:Int) oM oM (by rw[uD.2,<-Int.natCast_mul];generalize bytes*k=q at hb ⊢;omega) (by unfold maxLen at hk;omega);rw[zdv,uD.1,hcs]at jG;simp only[execOp,hx,hy,zbk,jG,zas,zbn]
end
end Go.Mw
namespace Go.Proofs.YtkfpleidaoaonaaGreatDoor
open Go Go.Mw Go.Lib Go.RowKit
set_option maxRecDepth 4000
section
variable {w w0:Wd} {S:NP} {rs:List HP} {put:HP->List HP}
theorem Er {α:Type} (w:Wd) (enc:α->LV) (k:Nat):aM w (.slice none 0 0) enc k []:=⟨none,0,rfl,⟨zbf _,dC⟩,jB.nil _ _ _⟩
theorem Oj {α:Type} {enc:α->LV} {k b e m:Nat} [hk:lY enc k] {l:List α} (H:Mw.Sep w0 S rs w) (hat:At rs (blk b (l.flatMap enc) e) put) (hm:m=l.length) (hl:l.length<=100000):aM w (.slice (some ⟨b,0,none⟩) m m) enc k l:=by
 subst hm;exact⟨_,_,rfl,⟨zbf _,oM⟩,Sep.qJ H hat (mJ hk.len l)⟩
end
/-! The words of the known expressions. -/
end Go.Proofs.YtkfpleidaoaonaaGreatDoor
namespace Go.Proofs.YtkfpleidaoaonaaGreatDoor
open Go Go.Mw Go.Lib Tryz
set_option maxRecDepth 4000
attribute [local irreducible] FW FL FG FGn gu gy dh gH Qfn Gives
def U (n:Int):Value:=.int .u64 n
def dV (v:Int):LV:=[U (wA v),U (wB v),U (wC v)]
instance:lY dV 3:=⟨λ_=>rfl⟩
def Ju (x:Int×Int×Int):LV:=[U x.1,U x.2.1,U x.2.2]
theorem aak {P:Program} {w:Wd} {d:Nat} {t:Td} (a b:Int) (h:P.underlying t=some (.int .u64)):(Op.equalIn (d+1) t (U a) (U b)).run P w=.ok (decide (a=b)) w:=by
 rw[show U a=.int .u64 a from rfl,show U b=.int .u64 b from rfl,run_equalIn_int w d t .u64 .u64 a b h];rfl
theorem an1 {d:Nat} (a b:Int×Int×Int) (w:Wd):(Op.equalIn (d+2) 123 (.agg (Ju a).toArray) (.agg (Ju b).toArray)).run prog w=.ok (decide (a=b)) w:=by
 rw[run_equalIn_agg w (d+1) _ _ _ kR kR];simp only[Program.fieldsOf,underlying123];rw[Le rfl aa7 rfl rfl (aak a.1 b.1 kR),Le rfl aa7 rfl rfl (aak a.2.1 b.2.1 kR),Le rfl aa7 rfl rfl (aak a.2.2 b.2.2 kR),ahN];have e:(a=b)=(a.1=b.1/\a.2.1=b.2.1/\a.2.2=b.2.2):=propext ⟨λh=>by subst h;exact⟨rfl,rfl,rfl⟩,λh=>Prod.ext h.1 (Prod.ext h.2.1 h.2.2)⟩;simp only[e]
 by_cases h1:a.1=b.1<;>by_cases h2:a.2.1=b.2.1<;>by_cases h3:a.2.2=b.2.2<;>simp[h1,h2,h3]
instance:EqData prog 123 (Int×Int×Int) Ju:=⟨λa b w=>an1 (d:=9998) a b w,kR⟩
def Fp:List Int->Int
 | []=>0
 | x::l=>x+Fp l
theorem Xr (a b:List Int):Fp (a++b)=Fp a+Fp b:=by
 induction a with
 | nil=>simp[Fp]
 | cons x a ih=>rw[zcc,Fp,Fp,ih];omega
section
variable {w:Wd}
theorem Jv (n:Int) (hn:fits n):aN prog 107 [I n] w λv w'=>v=U (if n<0 then 18446744073709551615 else 0)/\w=w':=by
 refine eP func107 rfl rfl rfl rfl ?_;refine Zb2 ?_;refine Vv (Gives.shr rfl rfl dC) (Vv (Gives.conv rfl) ?_);refine Zb1 ?_;exact⟨zaw U (by
 show IntKind.u64.wrap (n.fdiv (2^63))=_
 rw[IntKind.wrap_u64];have h1:=hn.1;have h2:=hn.2;rw[show(2:Int)^63=9223372036854775808 from dC,zfr _ dC]
 split<;>omega),rfl⟩
theorem UZ (n:Int) (hn:fits n):aN prog 68 [I n] w λv w'=>v=agg (dV n)/\Kept noB w w':=by
 have H:=Sep.aL w;obtain⟨h1,h2⟩:=ajr hn.1 (Int.lt_add_one_of_le hn.2);refine sI func68 rfl rfl rfl rfl ?_;refine Sr (aW H (h:=λb1 w2 H2 k1=>?_));refine Zb1 ?_;refine Vv (Gives.conv rfl) ?_;rw[IntKind.wrap_u64];refine Mv ?_;refine gX (Jv n hn) (h:=?_);refine Mv ?_;refine gX (Jv n hn) (h:=?_);refine Vb [U (wA n),U (if n<0 then 18446744073709551615 else 0),U (if n<0 then 18446744073709551615 else 0)] ?_;refine au H2 (h:=λwa Ha=>?_);refine Qn (fu (aX (h:=?_)));exact⟨_,jg Ha,by unfold dV;rw[h1,h2];rfl,Ha.kept⟩
theorem KH (a b c:Int) (ha:0<=a) (hb:0<=b) (h0:0<=c) (hc:c<=1):(callFunc 157 [U a,U b,U c].toArray).run prog w=.ok (.value (.tuple #[U ((a+b+c)%18446744073709551616),U ((a+b+c)/18446744073709551616)])) w:=by
 rw[run_callFunc_extern (e:=add64Entry) func157 kR kR kR kR];show((add64Entry #[.int .u64 a,.int .u64 b,.int .u64 c]).run prog w).andThen _=_
 rw[run_add64 a b c ha hb h0 hc w];rfl
theorem ajs {L:List Int} {vl:Value} (hl:aM w vl dV 3 L):aN prog 106 [vl] w λv w'=>v=agg (dV (Fp L))/\Kept noB w w':=by
 obtain⟨A,m,rfl,⟨hm,qo⟩,hA⟩:=hl;have H:=Sep.aL w;refine sI func106 rfl rfl rfl rfl ?_;refine Sr (aW H (h:=λb2 w2 H2 k1=>?_));refine Zb3 ?_;refine aP (λi:Nat=>[(2,aA b2),(6,.slice A L.length m),(7,I L.length),(8,I i)]) (λi w'=>i<=L.length/\Sep w noB [blk b2 (dV (Fp (L.take i))) 123] w') (λi _=>L.length-i) 0 tR ⟨zak _,H2⟩ (λi τ w7 hI=>?_);obtain⟨hi,H7⟩:=hI
 try simp only[dA,like,bB,bY]
 refine Za1 ?_;refine Qn (fC (Cp rfl (λJf=>?_) (λJf=>?_)))
 .have bX:i<L.length:=oM
  obtain⟨x,hx⟩:=get_some bX;have hxm:=hx;have tF:Fp (L.take (i+1))=Fp (L.take i)+x:=by rw[zav,hx,Xr];show _+(x+0)=_;omega
  obtain⟨s,hs⟩: ∃s,s=Fp (L.take i):=⟨_,rfl⟩;rw[<-hs]at tF H7;obtain⟨⟨ha1,ha2⟩,⟨Q8,hb2⟩,Je,hc2⟩:=sQ s;obtain⟨⟨hd1,Lx⟩,⟨Um,he2⟩,hf1,hf2⟩:=sQ x;obtain⟨hsa,uD,hsc⟩:=agh s x;refine Zb2 ?_;refine aW H7 (h:=λb4 wa Ha ka=>?_);refine au Ha (h:=λwb Hb=>?_);refine Zb5 ?_;refine Vv (Gives.ext (vals:=[U (wA s),U (wA x),U 0]) (KH _ _ _ ha1 hd1 dC dC)) (Zb4 ?_);refine bM Hb (h:=λwc Hc=>?_);refine Zb6 ?_;refine Vv (Gives.ext (vals:=[U (wB s),U (wB x),U ((wA s+wA x+0)/18446744073709551616)]) (KH _ _ _ Q8 Um oM oM)) (Zb4 ?_);refine bM Hc (h:=λwd Hd=>?_);refine Zb6 ?_;refine Vv (Gives.ext (vals:=[U (wC s),U (wC x),U ((wB s+wB x+(wA s+wA x+0)/18446744073709551616)/18446744073709551616)]) (KH _ _ _ Je hf1 oM oM)) (Zb4 ?_);refine bM Hd (h:=λwe He=>?_);refine Zb0 ?_;refine Vc ((i+1:Nat):Int) ?_;refine Zb1 ?_
  have e:[U ((wA s+wA x+0)%18446744073709551616),U ((wB s+wB x+(wA s+wA x+0)/18446744073709551616)%18446744073709551616),U ((wC s+wC x+(wB s+wB x+(wA s+wA x+0)/18446744073709551616)/18446744073709551616)%18446744073709551616)]=dV (Fp (L.take (i+1))):=by
   rw[tF];unfold dV;rw[hsa,uD,hsc,Int.add_zero]
  exact ak (i+1) tR ⟨oM,by rw[<-e];exact(He.aJ).first⟩ oM
 have jy:Fp (L.take i)=Fp L:=by rw[zaf oM]
 rw[jy]at H7;refine Zb1 ?_;refine au H7 (h:=λwf Hf=>?_);refine Qn (fu (aX (h:=?_)));exact⟨_,jg Hf,rfl,Hf.kept⟩
theorem U0 (x y:Int):aN prog 67 [agg (dV x),agg (dV y)] w λv w'=>v=agg (dV (x+y))/\Kept noB w w':=by
 have H:=Sep.aL w;refine DR func67 rfl rfl rfl rfl ?_;refine Sr (dz H (cs:=dV x) rfl (h:=λb2 w2 H2 k1=>?_));refine dz H2 (cs:=dV y) rfl (h:=λb3 w4 H4 k3=>?_);refine aW H4 (h:=λb5 w6 H6 k5=>?_);refine Zb2 ?_;refine Bs H6 ([x,y].flatMap dV) (λbs wa Ha k9=>?_);have yU:=Oj (enc:=dV) (l:=[x,y]) Ha At0 rfl (by show 2<=100000;decide);refine aF Ha (ajs yU) (h:=λwb Hb ka=>?_);rw[show Fp [x,y]=x+y from by show x+(y+0)=_;omega];refine au Hb (h:=λwc Hc=>?_);refine Qn (fu (aX (h:=?_)));exact⟨_,jg Hc,rfl,Hc.kept⟩
theorem ajt {v:Int} (h:gU v=true):Ai v=v:=by
 have:=zba h;unfold Ai wA
 split<;>omega
theorem agk (v:Int):IntKind.i64.wrap (wA v)=Ai v:=by
 rw[IntKind.wrap_i64];unfold Ai wA
 split<;>omega
theorem agl (v:Int):fits (Ai v):=by
 unfold fits Ai wA
 split<;>omega
theorem U1 (v:Int) (h1: -3138550867693340381917894711603833208051177722232017256448<=v) (h2:v<3138550867693340381917894711603833208051177722232017256448):
    aN prog 69 [agg (dV v)] w λr w'=>r=.tuple #[I (if gU v=true then v else 0),I (if gU v=true then 0 else 50)]/\Kept noB w w':=by
  have H:=Sep.aL w;have hw:=agi h1 h2;refine eP func69 rfl rfl rfl rfl ?_;refine Sr (dz H (cs:=dV v) rfl (h:=λb1 w2 H2 k1=>?_));refine Zb4 ?_;refine Vv (Gives.Dj (c:=Ai v) rfl (agk v)) (Zb1 ?_);refine Ds (λRc wa Ha=>?_);refine Zb1 ?_;refine nC Rc 2 Ha (h:=?_);refine iZ Rc 1 [(2,false)] Ha (UZ (Ai v) (agl v)) (h:=λwb Hb ka=>⟨aO Hb (h:=aK),?_⟩);refine Gp Rc 3 rfl rfl (λ_=>Gives.Yt (enc:=Ju) (wA (Ai v),wB (Ai v),wC (Ai v)) (wA v,wB v,wC v) rfl rfl) (dP Rc kR ?_);refine aU (Cp rfl (λIa=>?_) (λIa=>?_))
  . have hf: ¬gU v=true:=λh=>by
      obtain⟨e1,e2,e3⟩:=hw.2 h;exact Ia (by rw[e1,e2,e3])
    refine Zb2 ?_;exact⟨by rw[zab hf,zab hf];rfl,Hb.kept⟩
  have hf:gU v=true:=by
    have h:=Decidable.of_not_not Ia;injection h with h1 h2
    injection h2 with h2 h3
    exact hw.1 ⟨h1,h2,h3⟩
  refine Zb3 ?_;exact⟨by rw[zac hf,zac hf];exact zaw (λz=>Value.tuple #[I z,I 0]) (ajt hf),Hb.kept⟩
theorem agm (a b:Int) (ha:0<=a) (ha2:a<18446744073709551616) (hb:0<=b) (hb2:b<18446744073709551616):aN prog 413 [U a,U b] w λv w'=>v=.tuple #[U (a*b/18446744073709551616),U (a*b%18446744073709551616)]/\w=w':=by
 obtain⟨x,rfl⟩:=zfa ha;obtain⟨y,rfl⟩:=zfa hb;have:=Tryz.bits_Mul64 x y oM oM w;refine nD (Calls.mono this λe w' he=>?_);obtain⟨rfl,rfl⟩:=he;exact⟨by congr 2<;>simp[U],rfl⟩
theorem and_ones (a:Int) (h0:0<=a) (h1:a<18446744073709551616) (p:Prop) [Decidable p]:bits .and .u64 a (if p then 18446744073709551615 else 0)=if p then a else 0:=by
 obtain⟨x,rfl⟩:=zfa h0
 split
 .have h:=bits_and_u64_nat x 18446744073709551615 oM oM
  have e:x&&& 18446744073709551615=x%18446744073709551616:=Nat.and_two_pow_sub_one_eq_mod x 64;rw[e,Nat.mod_eq_of_lt oM]at h;exact h
 have h:=bits_and_u64_nat x 0 oM oM;rw[Nat.and_zero]at h;exact h
theorem aju (a b:Int) (ha:fits a) (hb:fits b):aN prog 409 [I a,I b] w λv w'=>v=agg (dV (a*b))/\Kept noB w w':=by
 have H:=Sep.aL w;obtain⟨m1,m2,m3⟩:=agj ha hb;obtain⟨⟨ha1,ha2⟩,_,_⟩:=sQ a;obtain⟨⟨Q8,hb2⟩,_,_⟩:=sQ b
 have hp:0<=wA a*wA b/18446744073709551616/\wA a*wA b/18446744073709551616<18446744073709551616:=by
  have h1:=Int.mul_nonneg ha1 Q8;have h2:wA a*wA b<=18446744073709551615*18446744073709551615:=Int.mul_le_mul oM oM Q8 dC;omega
 obtain⟨⟨Je,hc2⟩,⟨hd1,Lx⟩,_⟩:=sQ (a*b);refine DR func409 rfl rfl rfl rfl ?_;refine Sr (aW H (h:=λb1 w2 H2 k1=>?_));refine Zb1 ?_;refine Vv (Gives.Dj (c:=wA a) rfl (by rw[IntKind.wrap_u64];rfl)) ?_;refine Mv ?_;refine Vv (Gives.Dj (c:=wA b) rfl (by rw[IntKind.wrap_u64];rfl)) ?_;refine gX (agm (wA a) (wA b) ha1 ha2 Q8 hb2) (h:=?_);refine Zb7 ?_;refine Vv (Gives.Dj (c:=wA a) rfl (by rw[IntKind.wrap_u64];rfl)) ?_;refine Mv ?_;refine gX (Jv b hb) (h:=?_);refine Vv (Gives.al1 rfl rfl (and_ones (wA a) ha1 ha2 (b<0))) (Mv ?_);refine Vv (Gives.Dj (c:=wA b) rfl (by rw[IntKind.wrap_u64];rfl)) ?_;refine Mv ?_;refine gX (Jv a ha) (h:=?_);refine Vv (Gives.al1 rfl rfl (and_ones (wA b) Q8 hb2 (a<0))) (Vv (Gives.agf rfl rfl (IntKind.wrap_u64 _)) ?_);refine Vv (Gives.an0 (c:=wB (a*b)) rfl rfl (by rw[IntKind.wrap_u64,m2])) ?_;refine Zb4 ?_;refine Vv (Gives.Dj rfl rfl) (gX (Jv (IntKind.i64.wrap (wB (a*b))) (by unfold fits;rw[IntKind.wrap_i64];omega)) (h:=?_));refine Vb [U (wA a*wA b%18446744073709551616),U (wB (a*b)),U _] ?_;refine au H2 (h:=λwa Ha=>?_);refine Qn (fu (aX (h:=?_)));exact⟨_,jg Ha,by
 show agg [U (wA a*wA b%18446744073709551616),U (wB (a*b)),U (if IntKind.i64.wrap (wB (a*b))<0 then 18446744073709551615 else 0)]=agg (dV (a*b))
 unfold dV;rw[m1,m3,IntKind.wrap_i64]
 congr 5
 split<;>split<;>first | rfl | omega,Ha.kept⟩
end
end Go.Proofs.YtkfpleidaoaonaaGreatDoor
namespace Go.Proofs.YtkfpleidaoaonaaGreatDoor
open Go Go.Mw Go.Lib Go.Sort
set_option maxRecDepth 4000
def Gx {α:Type} (f:α->Int) (x:α):LV:=[I (f x)]
instance {α:Type} (f:α->Int):lY (Gx f) 1:=⟨λ_=>rfl⟩
def gM {α:Type} (f:α->Int) (A:OA) (n c:Nat) (d:Array α):HP:=bW 3 1 (Gx f) (.slice A n c) d.toList
def ltC {α:Type} (cf:α->α->Int) (x y:α):Bool:=decide (cf x y<0)
section
variable {α:Type} {f:α->Int} {cf:α->α->Int} {w w' w0:Wd} {S F:NP} {rs:List HP} {put:HP->List HP} {A:OA} {n c i:Nat} {d:Array α} {fv:Value}
theorem an2 [Inhabited α] (h:i<d.size):d.toList[i]? =some d[i]! :=by
 rw[Array.getElem?_toList,getElem!_pos d i h,zdp h]
theorem swp_size [Inhabited α] (d:Array α) (i j:Nat):(swp d i j).size=d.size:=by unfold swp;rw[zei,zei]
theorem rdI (hn:n=d.size) (H:Mw.Sep w0 S rs w) (hat:At rs (gM f A n c d) put):Rd w A (Gx f) 1 d.toList:=by
 subst hn;exact mP H hat
def rJ {α:Type} (P:Program) (fv:Value) (f:α->Int) (cf:α->α->Int) (F:NP) (w:Wd):Prop:=
 ∃(g:FuncId) (fs cs:LV),fv=.func (.func g) fs.toArray cs.toArray/\bC P g/\∀w1,Kept F w w1->∀x y:α,aN P g (fs++[I (f x),I (f y)]++cs) w1 λr w'=>r=I (cf x y)/\Kept noB w1 w'
theorem rJ.keep {P:Program} (h:rJ P fv f cf F w) (hk:Kept F w w'):rJ P fv f cf F w':=by
 obtain⟨g,fs,cs,e,he,hc⟩:=h;exact⟨g,fs,cs,e,he,λw1 h1 x y=>hc w1 (hk.trans h1 λ_=>.inl) x y⟩
theorem rJ.into {P:Program} (h:rJ P fv f cf F w) (hk:Kept F w w') (hS: ∀b,S b->F b\/w.heap.size<=b):rJ P fv f cf S w':=by
 obtain⟨g,fs,cs,e,he,hc⟩:=h;exact⟨g,fs,cs,e,he,λw1 h1 x y=>hc w1 (hk.trans h1 hS) x y⟩
end
end Go.Proofs.YtkfpleidaoaonaaGreatDoor
namespace Go.Mw
open Go.RowKit Go.Proofs.YtkfpleidaoaonaaGreatDoor
section
variable {P:Program} {r:Option Nat} {n:Nat} {ops:AO} {Q:Post} {rest:LO} {σ:St} {w w0:Wd} {S F:NP} {rs:List HP} {put:HP->List HP} {ty:Td} {pos:String} {after:Array Edge} {guard:Option (Nat×Bool)} {lv:List Bool} {pd:LNB}
 {ρ:Od->Value} {x y:Od} {α:Type} {f:α->Int} {cf:α->α->Int} {A:OA} {m c i:Nat} {a:α} {d:Array α} {T t:Td} {fv:Value}
theorem Gives.Fu {e bytes:Nat} [ht:dD P t e] [hc:Cells P e 1 bytes] {w1:Wd} (hm:m=d.size) (hx:ρ x=.slice A m c) (hy:ρ y=.int .i64 i) (hr:Rd w1 A (Gx f) 1 d.toList) (bX:i<d.size):Gives P ρ (.indexAddr t x y) ty w (adr A (i*1)) w:=
 Gives.ady (l:=d.toList) (by rw[hm];rfl) hx hy hr bX
theorem Gives.an3 [Inhabited α] [OneCell P T] (hx:ρ x=adr A (i*1)) (hr:Rd w A (Gx f) 1 d.toList) (bX:i<d.size):Gives P ρ (.load T x) ty w (I (f d[i]!)) w:=
 Gives.TM (enc:=Gx f) (l:=d.toList) (f:=0) hx hr (an2 bX) rfl
theorem Xt [Inhabited α] [h1:OneCell P T] (hm:m=d.size) (H:Sep w0 S rs w) (hat:At rs (gM f A m c d) put) (bX:i<d.size) (hx:evF σ x=adr A (i*1)) (hy:evF σ y=I (f a)):
    ∃w',Qy P (evF σ) (.store T x y) ty w w'/\Sep w0 S (put (gM f A m c (d.setIfInBounds i a))) w':=by
  obtain⟨w',h,hs⟩:=LW (P:=P) (ty:=ty) (T:=T) (enc:=Gx f) (f:=0) a (m:=m) (by rw[hm];rfl) H hat (an2 bX) dC rfl hx hy rfl;refine⟨w',h,?_⟩;unfold gM;rw[Array.toList_setIfInBounds];exact hs
theorem Xu [Inhabited α] (gT:fT n ops=true) (e:Nat) (pd':LNB) (hm:m=d.size) [h1:OneCell P T] (H:Sep w0 S rs w) (hat:At rs (gM f A m c d) put) (bX:i<d.size)
    (ho:ops[e]? =some ⟨none,.store T x y,ty,pos,after,guard⟩:=by exact rfl)
    (hw:Region.wanted ⟨none,.store T x y,ty,pos,after,guard⟩ (eD ops σ)=true:=by kernel_rfl)
    (hx:evF σ x=adr A (i*1):=by exact rfl) (hy:evF σ y=I (f a):=by exact rfl)
    (fq:gY ops lv (pd.map (·.1)) e=true:=by kernel_rfl) (rC:pd.filter (λp=> !((above ops e).contains p.1))=pd':=by exact pD)
    (h: ∀w',Sep w0 S (put (gM f A m c (d.setIfInBounds i a))) w'->mI P ops σ w' pd'/\FG P r n ops Q (lv.set e true) pd' σ w'):FG P r n ops Q lv pd σ w:=
  XW gT e pd' ho hw (Xt hm H hat bX hx hy) fq rC h
theorem an4 (gT:fT n ops=true) (e:Nat) (pd':LNB) {w1:Wd} (hC:rJ P fv f cf F w1) (H:Sep w1 F rs w) (a b:α) {dd:Nat} {y:Od} {xs:List Od} {ats:Array Td}
    (ho:ops[e]? =some ⟨some dd,.call {callee:=.value y,args:=xs.toArray,argTypes:=ats},ty,pos,after,guard⟩:=by exact rfl)
    (hw:Region.wanted ⟨some dd,.call {callee:=.value y,args:=xs.toArray,argTypes:=ats},ty,pos,after,guard⟩ (eD ops σ)=true:=by kernel_rfl)
    (hy:evF σ y=fv:=by exact rfl) (hv:xs.map (evF σ)=[I (f a),I (f b)]:=by exact rfl)
    (fq:gY ops lv (pd.map (·.1)) e=true:=by kernel_rfl) (rC:pd.filter (λp=> !((above ops e).contains p.1))=pd':=by exact pD)
    (h: ∀w',Sep w1 F rs w'->mI P ops (upd σ dd (I (cf a b))) w' pd'/\FG P r n ops Q (lv.set e true) pd' (upd σ dd (I (cf a b))) w'):FG P r n ops Q lv pd σ w:=by
  obtain⟨g,fs,cs,rfl,he,hc⟩:=hC;refine jc (he:=he) gT e pd' hy (hc w H.kept a b) ho hw hv fq rC λv w' hr=>?_;obtain⟨rfl,hk⟩:=hr;exact h w' (H.keep hk)
/-! The same,with all that can be found by itself left to be found. -/
theorem Gives.aql {e bytes:Nat} [ht:dD P t e] [hc:Cells P e 1 bytes] {w1:Wd} (hx:ρ x=.slice A m c) (hy:ρ y=.int .i64 i) (H:Sep w0 S rs w1) (hat:At rs (gM f A m c d) put) (hm:m=d.size) (bX:i<m):Gives P ρ (.indexAddr t x y) ty w (adr A (i*1)) w:=
 Gives.Fu hm hx hy (rdI hm H hat) (hm▸bX)
theorem Gives.an5 [Inhabited α] [OneCell P T] (hx:ρ x=adr A (i*1)) (H:Sep w0 S rs w) (hat:At rs (gM f A m c d) put) (hm:m=d.size) (bX:i<m):Gives P ρ (.load T x) ty w (I (f d[i]!)) w:=
 Gives.an3 hx (rdI hm H hat) (hm▸bX)
theorem sz {p:Prop} (h:p:=by first | assumption | (simp only[zei];assumption) | (simp only[swp_size];assumption)):p:=h
theorem FsI [Inhabited α] {j:Nat} [h1:OneCell P T] (h: ∀w',Sep w0 S (put (gM f A m c (d.setIfInBounds i a))) w'->FG P r n ops Q ((lv.set j true).set (j+1) true) (pd.filter (λp=> !((above ops (j+1)).contains p.1))) σ w') (H:Sep w0 S rs w:=by assumption) (hat:At rs (gM f A m c d) put:=by first | exact At0 | exact At1)
    (gT:fT n ops=true:=by assumption) (ho:ops[j+1]? =some ⟨none,.store T x y,ty,pos,after,guard⟩:=by exact rfl)
    (hw:Region.wanted ⟨none,.store T x y,ty,pos,after,guard⟩ (eD ops σ)=true:=by kernel_rfl)
    (hx:evF σ x=adr A (i*1):=by exact rfl) (hy:evF σ y=I (f a):=by exact rfl) (hm:m=d.size:=by exact sz) (bX:i<m:=by omega)
    (fq:gY ops (lv.set j true) (pd.map (·.1)) (j+1)=true:=by kernel_rfl) (gQ:(pd.filter (λp=> !((above ops (j+1)).contains p.1))).all (λp=>p.2)=true:=by kernel_rfl):FG P r n ops Q (lv.set j true) pd σ w:=
  Xu gT (j+1) _ hm H hat (hm▸bX) ho hw hx hy fq rfl λw' hs=>⟨sT gQ,h w' hs⟩
theorem FcI {j:Nat} {w1:Wd} {a b:α} {dd:Nat} {y:Od} {xs:List Od} {ats:Array Td} (h: ∀w',Sep w1 F rs w'->FG P r n ops Q ((lv.set j true).set (j+1) true) (pd.filter (λp=> !((above ops (j+1)).contains p.1))) (upd σ dd (I (cf a b))) w')
    (hC:rJ P fv f cf F w1:=by assumption) (H:Sep w1 F rs w:=by assumption) (gT:fT n ops=true:=by assumption)
    (ho:ops[j+1]? =some ⟨some dd,.call {callee:=.value y,args:=xs.toArray,argTypes:=ats},ty,pos,after,guard⟩:=by exact rfl)
    (hw:Region.wanted ⟨some dd,.call {callee:=.value y,args:=xs.toArray,argTypes:=ats},ty,pos,after,guard⟩ (eD ops σ)=true:=by kernel_rfl)
    (hy:evF σ y=fv:=by exact rfl) (hv:xs.map (evF σ)=[I (f a),I (f b)]:=by exact rfl)
    (fq:gY ops (lv.set j true) (pd.map (·.1)) (j+1)=true:=by kernel_rfl) (gQ:(pd.filter (λp=> !((above ops (j+1)).contains p.1))).all (λp=>p.2)=true:=by kernel_rfl):FG P r n ops Q (lv.set j true) pd σ w:=
  an4 gT (j+1) _ hC H a b ho hw hy hv fq rfl λw' hs=>⟨sT gQ,h w' hs⟩
end
end Go.Mw
namespace Go.Proofs.YtkfpleidaoaonaaGreatDoor
open Go Go.Mw Go.Lib Go.Sort
set_option maxRecDepth 4000
attribute [local irreducible] FW FL FG FGn gu gy dh gH Qfn Gives
section
variable {α:Type} [Inhabited α] {f:α->Int} {cf:α->α->Int} {w:Wd} {F:NP} {A:OA} {n c:Nat} {d₀:Array α} {fv:Value}
theorem aal {a b:Nat} (hp:(gM f A n c d₀).ok F w) (CQ:n=d₀.size) (Ql:a<=b) (hb:b<=n) (rU:n<=1000000) (qP:rJ Tryz.prog fv f cf F w):
    aN Tryz.prog 212 [.slice A n c,I a,I b,fv] w λr w'=>r=.tuple #[]/\Turn F (gM f A n c (insertionSort (ltC cf) d₀ a b)) w w':=by
  have H:=Sep.dZ hp;obtain⟨res,ay⟩: ∃res,res=insertionSort (ltC cf) d₀ a b:=⟨_,rfl⟩;rw[<-ay];unfold insertionSort at ay;refine CV Tryz.func212 rfl rfl rfl rfl ?_;refine Zb1 ?_;refine Vc ((a+1:Nat):Int) ?_;refine Zb1 ?_;refine aP (λx:Nat×Array α=>[(0,.slice A n c),(1,I a),(2,I b),(3,fv),(8,I x.1)]) (λx w'=>((n=x.2.size/\x.1<=b+1)/\insOuter (ltC cf) a b x.1 x.2=res)/\Sep w F [gM f A n c x.2] w') (λx _=>b+1-x.1) (a+1,d₀) tR ⟨⟨⟨CQ,oM⟩,ay.symm⟩,H⟩ (λx τ w5 hI=>?_);obtain⟨i,d⟩:=x;obtain⟨⟨⟨hn,hib⟩,hi⟩,H5⟩:=hI;dsimp only at hn hib hi H5
  try simp only[dA,like,bB,bY]
  refine Za3 ?_;refine Qn (Cp rfl (λJf=>?_) (λJf=>?_))
  . have bX:i<b:=oM
    rw[insOuter,zac bX]at hi;refine Zb2 ?_;refine aP (λx:Nat×Array α=>[(0,.slice A n c),(1,I a),(2,I b),(3,fv),(8,I i),(9,I x.1)]) (λx w'=>((n=x.2.size/\x.1<=i)/\insOuter (ltC cf) a b (i+1) (insInner (ltC cf) a x.1 x.2)=res)/\Sep w F [gM f A n c x.2] w') (λx _=>x.1) (i,d) tR ⟨⟨⟨hn,zbf _⟩,hi⟩,H5⟩ (λx τ wa hI=>?_);clear hi hn;obtain⟨j,d⟩:=x;obtain⟨⟨⟨hn,hji⟩,hi⟩,Ha⟩:=hI;dsimp only at hn hji hi Ha;have hR:=rdI hn Ha At0
    try simp only[dA,like,bB]
    refine Zb0 ?_;refine Ds (λSa wb Hb=>?_);refine Zb4 ?_;refine fP (t:=21) rfl (λSb=>?_) (λSb=>?_)
    . obtain⟨k,rfl⟩: ∃k,j=k+1:=⟨j-1,oM⟩
      have hka:k+1>a:=oM;refine Zb7 ?_;refine Gc Sa 11 ((k:Nat):Int) ?_;refine Zb2 ?_;refine FcI (λwc Hc=>?_);refine Za2 ?_;refine dP Sa kR ?_;refine aU (Cp rfl (λIa=>?_) (λIa=>?_))
      . rw[insInner,zac (by simp[ltC];exact⟨oM,Ia⟩)]at hi
        refine Zb0 ?_;refine Ds (λSc wd Hd=>?_);refine Zb4 ?_;refine Gc Sc 4 ((k:Nat):Int) ?_;refine Zb2 ?_;refine Gc Sc 7 ((k:Nat):Int) ?_;refine Zb7 ?_;refine FsI (λwe He=>?_);refine Zb1 ?_;refine FsI (λwf Hf=>?_);refine Zb1 ?_;refine Vc (k:Int) ?_;refine Zb1 ?_;exact ak (k,swp d (k+1) k) tR ⟨⟨⟨by rw[swp_size];exact hn,dO⟩,hi⟩,Hf⟩ dO
      rw[insInner,zab (by simp[ltC];intro _;have:=Ia;omega)]at hi;refine Zb1 ?_;refine Vc ((i+1:Nat):Int) ?_;refine Zb1 ?_;exact ak (i+1,d) tR ⟨⟨⟨hn,dO⟩,hi⟩,Hc⟩ dO
    have gQ:insInner (ltC cf) a j d=d:=by
      cases j with
      | zero=>rfl
      | succ k=>rw[insInner,zab (by simp;intro h;omega)]
    rw[gQ]at hi;refine Zb2 ?_;refine Vc ((i+1:Nat):Int) ?_;refine Zb1 ?_;exact ak (i+1,d) tR ⟨⟨⟨hn,dO⟩,hi⟩,Hb⟩ dO
  rw[insOuter,zab oM]at hi;refine Zb0 ?_;exact⟨rfl,by rw[<-hi];exact H5.turn⟩
end
open Tryz
section
variable {α:Type} [Inhabited α] {f:α->Int} {cf:α->α->Int} {w:Wd} {F:NP} {A:OA} {n c:Nat} {d₀:Array α} {fv:Value}
theorem acj {root top first:Nat} (hp:(gM f A n c d₀).ok F w) (CQ:n=d₀.size) (hb:first+top<=n) (rU:n<=1000000) (hr:root<=n) (qP:rJ prog fv f cf F w):
    aN prog 295 [.slice A n c,I root,I top,I first,fv] w λr w'=>r=.tuple #[]/\n=(siftDown (ltC cf) top first root d₀).size/\Turn F (gM f A n c (siftDown (ltC cf) top first root d₀)) w w':=by
  have H:=Sep.dZ hp;obtain⟨res,ay⟩: ∃res,res=siftDown (ltC cf) top first root d₀:=⟨_,rfl⟩;rw[<-ay];refine Rl func295 rfl rfl rfl rfl ?_;refine Zb2 ?_;refine aP (λx:Nat×Array α=>[(0,.slice A n c),(2,I top),(3,I first),(4,fv),(10,I x.1)]) (λx w'=>((n=x.2.size/\x.1<=n)/\siftDown (ltC cf) top first x.1 x.2=res)/\Sep w F [gM f A n c x.2] w') (λx _=>n+1-x.1) (root,d₀) tR ⟨⟨⟨CQ,hr⟩,ay.symm⟩,H⟩ (λx τ w4 hI=>?_);obtain⟨r,d⟩:=x;obtain⟨⟨⟨hn,hrn⟩,hi⟩,H4⟩:=hI;dsimp only at hn hrn hi H4;have hR:=rdI hn H4 At0
  try simp only[dA,like,bB,bY]
  refine Zb1 ?_;refine Vc ((2*r:Nat):Int) ?_;refine Vc ((2*r+1:Nat):Int) ?_;refine Za4 ?_;refine Qn (Cp rfl (λIa=>?_) (λIa=>?_))
  . have hge:2*r+1≥top:=oM
    rw[siftDown,dif_pos hge]at hi;refine Zb0 ?_;exact⟨rfl,by rw[<-hi];exact hn,by rw[<-hi];exact H4.turn⟩
  have hge: ¬2*r+1≥top:=oM;rw[siftDown,dif_neg hge]at hi;refine Zb0 ?_;refine Ds (λSa wa Ha=>?_);refine Zb1 ?_;refine Gc Sa 1 ((2*r+1+1:Nat):Int) ?_;refine Zb3 ?_;refine fP (t:=23) rfl (λSb=>?_) (λSb=>?_)
  . have h2:2*r+1+1<top:=oM
    refine Zb4 ?_;refine Gc Sa 9 ((first+(2*r+1):Nat):Int) ?_;refine Zb5 ?_;refine Gc Sa 15 ((first+(2*r+1):Nat):Int) ?_;refine Gc Sa 16 ((first+(2*r+1)+1:Nat):Int) ?_;refine Zb2 ?_;refine FcI (λwb Hb=>?_);refine Za2 ?_;refine dP Sa kR ?_;refine aU (Cp rfl (λIb=>?_) (λIb=>?_))
    . have bX:=Ib
      rw[zac (by simp only[zbv,decide_eq_true_eq,ltC];exact⟨h2,bX⟩),dif_pos (show 2*r+2<top from oM)]at hi;refine Zb1 ?_;refine Vc ((2*r+2:Nat):Int) ?_;obtain⟨ch,hch⟩: ∃ch,ch=2*r+2:=⟨_,rfl⟩;rw[<-hch]at hi ⊢;have hct:ch<top:=oM;refine Zb1 ?_;refine Ds (λSc wc Hc=>?_);refine Zb4 ?_;refine Gc Sc 4 ((first+r:Nat):Int) ?_;refine Zb5 ?_;refine Gc Sc 10 ((first+ch:Nat):Int) ?_;refine Zb2 ?_;refine FcI (λwd Hd=>?_);refine Za2 ?_;refine dP Sc kR ?_;refine aU (Cp rfl (λIc=>?_) (λIc=>?_))
      . have bX:=Ic
        rw[zac (by simp only[zdn,decide_eq_false_iff_not,ltC];exact bX)]at hi;refine Zb0 ?_;exact⟨rfl,by rw[<-hi];exact hn,by rw[<-hi];exact Hd.turn⟩
      have bX:=Ic;rw[zab (by simp only[zdn,decide_eq_false_iff_not,ltC];exact bX)]at hi;refine Zb0 ?_;refine Ds (λSd we He=>?_);refine Zb3 ?_;refine Gc Sd 3 ((first+r:Nat):Int) ?_;refine Zb3 ?_;refine Gc Sd 7 ((first+ch:Nat):Int) ?_;refine Zb3 ?_;refine Gc Sd 11 ((first+ch:Nat):Int) ?_;refine Zb5 ?_;refine Gc Sd 17 ((first+r:Nat):Int) ?_;refine Zb3 ?_;refine FsI (λwf Hf=>?_);refine Zb1 ?_;refine FsI (λwg Hg=>?_);refine Zb2 ?_;exact ak (ch,swp d (first+r) (first+ch)) tR ⟨⟨⟨by rw[swp_size];exact hn,dO⟩,hi⟩,Hg⟩ dO
    have bX:=Ib;rw[zab (by simp only[zbv,decide_eq_true_eq,ltC];exact λh=>bX h.2)]at hi;obtain⟨ch,hch⟩: ∃ch,ch=2*r+1:=⟨_,rfl⟩;rw[<-hch]at hi ⊢;have hct:ch<top:=oM;refine Zb0 ?_;refine Ds (λSe wh Hh=>?_);refine Zb4 ?_;refine Gc Se 4 ((first+r:Nat):Int) ?_;refine Zb5 ?_;refine Gc Se 10 ((first+ch:Nat):Int) ?_;refine Zb2 ?_;refine FcI (λwi Hi=>?_);refine Za2 ?_;refine dP Se kR ?_;refine aU (Cp rfl (λId=>?_) (λId=>?_))
    . have bX:=Id
      rw[zac (by simp only[zdn,decide_eq_false_iff_not,ltC];exact bX)]at hi;refine Zb0 ?_;exact⟨rfl,by rw[<-hi];exact hn,by rw[<-hi];exact Hi.turn⟩
    have bX:=Id;rw[zab (by simp only[zdn,decide_eq_false_iff_not,ltC];exact bX)]at hi;refine Zb0 ?_;refine Ds (λSf wj Hj=>?_);refine Zb3 ?_;refine Gc Sf 3 ((first+r:Nat):Int) ?_;refine Zb3 ?_;refine Gc Sf 7 ((first+ch:Nat):Int) ?_;refine Zb3 ?_;refine Gc Sf 11 ((first+ch:Nat):Int) ?_;refine Zb5 ?_;refine Gc Sf 17 ((first+r:Nat):Int) ?_;refine Zb3 ?_;refine FsI (λwk Hk=>?_);refine Zb1 ?_;refine FsI (λwl Hl=>?_);refine Zb2 ?_;exact ak (ch,swp d (first+r) (first+ch)) tR ⟨⟨⟨by rw[swp_size];exact hn,dO⟩,hi⟩,Hl⟩ dO
  have h2: ¬2*r+1+1<top:=oM;rw[zab (by simp[h2])]at hi;obtain⟨ch,hch⟩: ∃ch,ch=2*r+1:=⟨_,rfl⟩;rw[<-hch]at hi ⊢;have hct:ch<top:=oM;refine Zb1 ?_;refine Ds (λSg wm Hm=>?_);refine Zb4 ?_;refine Gc Sg 4 ((first+r:Nat):Int) ?_;refine Zb5 ?_;refine Gc Sg 10 ((first+ch:Nat):Int) ?_;refine Zb2 ?_;refine FcI (λwn Hn=>?_);refine Za2 ?_;refine dP Sg kR ?_;refine aU (Cp rfl (λIe=>?_) (λIe=>?_))
  . have bX:=Ie
    rw[zac (by simp only[zdn,decide_eq_false_iff_not,ltC];exact bX)]at hi;refine Zb0 ?_;exact⟨rfl,by rw[<-hi];exact hn,by rw[<-hi];exact Hn.turn⟩
  have bX:=Ie;rw[zab (by simp only[zdn,decide_eq_false_iff_not,ltC];exact bX)]at hi;refine Zb0 ?_;refine Ds (λSh wo Ho=>?_);refine Zb3 ?_;refine Gc Sh 3 ((first+r:Nat):Int) ?_;refine Zb3 ?_;refine Gc Sh 7 ((first+ch:Nat):Int) ?_;refine Zb3 ?_;refine Gc Sh 11 ((first+ch:Nat):Int) ?_;refine Zb5 ?_;refine Gc Sh 17 ((first+r:Nat):Int) ?_;refine Zb3 ?_;refine FsI (λwp Hp=>?_);refine Zb1 ?_;refine FsI (λwq Hq=>?_);refine Zb2 ?_;exact ak (ch,swp d (first+r) (first+ch)) tR ⟨⟨⟨by rw[swp_size];exact hn,dO⟩,hi⟩,Hq⟩ dO
theorem Xv {a b:Nat} (hp:(gM f A n c d₀).ok F w) (CQ:n=d₀.size) (Ql:a<b) (hb:b<=n) (rU:n<=1000000) (qP:rJ prog fv f cf F w):
    aN prog 213 [.slice A n c,I a,I b,fv] w λr w'=>r=.tuple #[]/\n=(heapSort (ltC cf) d₀ a b).size/\Turn F (gM f A n c (heapSort (ltC cf) d₀ a b)) w w':=by
  have H:=Sep.dZ hp;obtain⟨res,ay⟩: ∃res,res=heapSort (ltC cf) d₀ a b:=⟨_,rfl⟩;rw[<-ay];unfold heapSort at ay;refine CV func213 rfl rfl rfl rfl ?_;refine Zb5 ?_;refine Vc ((b-a:Nat):Int) ?_;refine Zb2 ?_;refine Vc ((b-a-1:Nat):Int) ?_;refine Vv (Gives.Yy (a:=b-a-1) (b:=2) rfl rfl dC oM) (Zb1 ?_);refine aP (λx:Nat×Array α=>[(0,.slice A n c),(3,fv),(8,I a),(9,I 0),(10,I (b-a:Nat)),(11,I ((x.1:Int)-1))]) (λx w'=>((n=x.2.size/\x.1<=(b-a-1)/2+1)/\res=heapPop (ltC cf) a (b-a) (heapBuild (ltC cf) (b-a) a x.1 x.2))/\Sep w F [gM f A n c x.2] w') (λx _=>x.1) ((b-a-1)/2+1,d₀) ⟨rfl,rfl,rfl,rfl,rfl,zaw I dO,trivial⟩ ⟨⟨⟨CQ,zbf _⟩,ay⟩,H⟩ (λx τ wa hI=>?_);obtain⟨k,d⟩:=x;obtain⟨⟨⟨hn,hkb⟩,hi⟩,Ha⟩:=hI;dsimp only at hn hkb hi Ha;clear ay
  try simp only[dA,like,bB,bY]
  refine Za2 ?_;refine Qn (Cp rfl (λIa=>?_) (λIa=>?_))
  . obtain⟨m,rfl⟩: ∃m,k=m+1:=⟨k-1,oM⟩
    rw[show((m+1:Nat):Int)-1=(m:Int)from oM];rw[heapBuild]at hi;refine Zb5 ?_;obtain⟨F0,fZ,iK,aQ⟩:=Ha.focus At0;refine aS (acj (root:=m) (top:=b-a) (first:=a) fZ hn oM rU oM (qP.into Ha.kept iK)) rfl rfl (λv' wb hv=>?_);obtain⟨rfl,zV,aq9,F1,hq,hs⟩:=hv;have Hb:=aQ _ F1 _ aq9 hq hs;refine Zb1 ?_;refine Vc ((m:Int)-1) ?_;refine Zb1 ?_;exact ak (m,siftDown (ltC cf) (b-a) a m d) tR ⟨⟨⟨zV,dO⟩,hi⟩,Hb⟩ dO
  have Ck:k=0:=oM;subst Ck;rw[heapBuild]at hi;refine Zb1 ?_;refine Vc (((b-a:Nat):Int)-1) ?_;refine Zb1 ?_;refine aP (λx:Nat×Array α=>[(0,.slice A n c),(3,fv),(8,I a),(9,I 0),(12,I ((x.1:Int)-1))]) (λx w'=>((n=x.2.size/\x.1<=b-a)/\res=heapPop (ltC cf) a x.1 x.2)/\Sep w F [gM f A n c x.2] w') (λx _=>x.1) (b-a,d) tR ⟨⟨⟨hn,zbf _⟩,hi⟩,Ha⟩ (λx τ wc hI=>?_);clear hi hn hkb;obtain⟨k,d⟩:=x;obtain⟨⟨⟨hn,hkb⟩,hi⟩,Hc⟩:=hI;dsimp only at hn hkb hi Hc;have hR:=rdI hn Hc At0
  try simp only[dA,like,bB]
  refine Za2 ?_;refine Qn (Cp rfl (λIb=>?_) (λIb=>?_))
  . obtain⟨m,rfl⟩: ∃m,k=m+1:=⟨k-1,oM⟩
    rw[show((m+1:Nat):Int)-1=(m:Int)from oM];rw[heapPop]at hi;refine Zb0 ?_;refine Ds (λSa wd Hd=>?_);refine Zb5 ?_;refine Gc Sa 5 ((a+m:Nat):Int) ?_;refine Zb3 ?_;refine Gc Sa 9 ((a+m:Nat):Int) ?_;refine Zb7 ?_;refine FsI (λwe He=>?_);refine Zb1 ?_;refine FsI (λwf Hf=>?_);refine Zb5 ?_;have hn2:n=(swp d a (a+m)).size:=by rw[swp_size];exact hn
    obtain⟨F0,fZ,iK,aQ⟩:=Hf.focus At0;refine aS (acj (root:=0) (top:=m) (first:=a) (d₀:=swp d a (a+m)) fZ hn2 oM rU oM (qP.into Hf.kept iK)) rfl rfl (λv' wg hv=>?_);obtain⟨rfl,zV,ara,F1,hq,hs⟩:=hv;have Hg:=aQ _ F1 _ ara hq hs;refine Zb1 ?_;refine Vc ((m:Int)-1) ?_;refine Zb1 ?_;exact ak (m,siftDown (ltC cf) m a 0 (swp d a (a+m))) tR ⟨⟨⟨zV,dO⟩,hi⟩,Hg⟩ dO
  have Ck:k=0:=oM;subst Ck;rw[heapPop]at hi;refine Zb0 ?_;exact⟨rfl,by rw[hi];exact hn,by rw[hi];exact Hc.turn⟩
end
section
variable {α:Type} [Inhabited α] {f:α->Int} {cf:α->α->Int} {w:Wd} {F:NP} {A:OA} {n c:Nat} {d₀:Array α} {fv:Value}
theorem KI {a b s bs:Nat} {E:Td} (hp:(star (blk bs [I s] E) (gM f A n c d₀)).ok F w) (hn:n=d₀.size) (ha:a<n) (hb:b<n) (rU:n<=1000000) (hs:s<=1000) (qP:rJ prog fv f cf F w):
    aN prog 344 [.slice A n c,I a,I b,aA bs,fv] w λr w'=>r=.tuple #[I (order2 (ltC cf) d₀ a b s).1,I (order2 (ltC cf) d₀ a b s).2.1]/\Turn F (star (blk bs [I (order2 (ltC cf) d₀ a b s).2.2] E) (gM f A n c d₀)) w w':=by
  have H:=(Sep.dZ hp).dG;have hR:=rdI hn H At1;unfold order2;refine Rl func344 rfl rfl rfl rfl ?_;refine Zb2 ?_;refine Ds (λRf w5 H5=>?_);refine Zb9 ?_;refine FcI (λwa Ha=>?_);refine Za1 ?_;refine dP Rf kR ?_;refine aU (Cp rfl (λIa=>?_) (λIa=>?_))
  . rw[zac (show ltC cf d₀[b]! d₀[a]! =true from zbe Ia)]
    refine Zb3 ?_;refine Vc ((s+1:Nat):Int) ?_;refine Zb1 ?_;refine bM Ha (h:=λwb Hb=>?_);refine Zb4 ?_;exact⟨rfl,Hb.bI.turn⟩
  rw[zab (show ¬ltC cf d₀[b]! d₀[a]! =true from λh=>Ia (zba h))];refine Zb4 ?_;exact⟨rfl,Ha.bI.turn⟩
theorem order2_mem {d:Array α} {a b s:Nat} {p:NP} (ha:p a) (hb:p b):p (order2 (ltC cf) d a b s).1/\p (order2 (ltC cf) d a b s).2.1/\(order2 (ltC cf) d a b s).2.2<=s+1:=by
 unfold order2
 split
 .exact⟨hb,ha,zbf _⟩
 exact⟨ha,hb,Nat.le_succ _⟩
theorem median_mem {d:Array α} {a b m s:Nat} {p:NP} (ha:p a) (hb:p b) (hm:p m):p (median (ltC cf) d a b m s).1/\(median (ltC cf) d a b m s).2<=s+3:=by
 unfold median;dsimp only;obtain⟨h1,h2,h3⟩:=order2_mem (cf:=cf) (d:=d) (s:=s) ha hb;obtain⟨h4,h5,h6⟩:=order2_mem (cf:=cf) (d:=d) (s:=(order2 (ltC cf) d a b s).2.2) h2 hm;obtain⟨h7,h8,h9⟩:=order2_mem (cf:=cf) (d:=d) (s:=(order2 (ltC cf) d (order2 (ltC cf) d a b s).2.1 m (order2 (ltC cf) d a b s).2.2).2.2) h1 h4;exact⟨h8,oM⟩
theorem RD {a b m s bs:Nat} {E:Td} (hp:(star (blk bs [I s] E) (gM f A n c d₀)).ok F w) (hn:n=d₀.size) (ha:a<n) (hb:b<n) (hm:m<n) (rU:n<=1000000) (hs:s<=900) (qP:rJ prog fv f cf F w):
    aN prog 297 [.slice A n c,I a,I b,I m,aA bs,fv] w λr w'=>r=I (median (ltC cf) d₀ a b m s).1/\Turn F (star (blk bs [I (median (ltC cf) d₀ a b m s).2] E) (gM f A n c d₀)) w w':=by
  have H:=Sep.dZ hp;unfold median;dsimp only;obtain⟨h1,h2,h3⟩:=order2_mem (cf:=cf) (d:=d₀) (s:=s) (p:=λx=>x<n) ha hb;obtain⟨r1,Zn⟩: ∃r1,r1=order2 (ltC cf) d₀ a b s:=⟨_,rfl⟩;rw[<-Zn]at h1 h2 h3 ⊢;obtain⟨h4,h5,h6⟩:=order2_mem (cf:=cf) (d:=d₀) (s:=r1.2.2) (p:=λx=>x<n) h2 hm;obtain⟨r2,V7⟩: ∃r2,r2=order2 (ltC cf) d₀ r1.2.1 m r1.2.2:=⟨_,rfl⟩;rw[<-V7]at h4 h5 h6 ⊢;refine anJ func297 rfl rfl rfl rfl ?_;refine Zb6 ?_;obtain⟨F0,fZ,iK,aQ⟩:=H.focus At0;refine aS (KI (a:=a) (b:=b) (s:=s) fZ hn ha hb rU oM (qP.into H.kept iK)) rfl rfl (λv' w8 hv=>?_);obtain⟨rfl,hk7,F1,hq,hs⟩:=hv;have H8:=aQ _ F1 _ hk7 hq hs;rw[<-Zn]at H8 ⊢;refine aeH ?_;obtain⟨F0,fZ,iK,aQ⟩:=H8.focus At0;refine aS (KI (a:=r1.2.1) (b:=m) (s:=r1.2.2) fZ hn h2 hm rU oM (qP.into H8.kept iK)) rfl rfl (λv' wa hv=>?_);obtain⟨rfl,arb,F1,hq,hs⟩:=hv;have Ha:=aQ _ F1 _ arb hq hs;rw[<-V7]at Ha ⊢;refine aeH ?_;obtain⟨F0,fZ,iK,aQ⟩:=Ha.focus At0;refine aS (KI (a:=r1.1) (b:=r2.1) (s:=r2.2.2) fZ hn h1 h4 rU oM (qP.into Ha.kept iK)) rfl rfl (λv' wb hv=>?_);obtain⟨rfl,ard,F1,hq,hs⟩:=hv;have Hb:=aQ _ F1 _ ard hq hs;refine Zb7 ?_;exact⟨rfl,Hb.turn⟩
theorem Dk {a s bs:Nat} {E:Td} (hp:(star (blk bs [I s] E) (gM f A n c d₀)).ok F w) (hn:n=d₀.size) (ha:1<=a) (ha2:a+1<n) (rU:n<=1000000) (hs:s<=900) (qP:rJ prog fv f cf F w):
    aN prog 296 [.slice A n c,I a,aA bs,fv] w λr w'=>r=I (medianAdjacent (ltC cf) d₀ a s).1/\Turn F (star (blk bs [I (medianAdjacent (ltC cf) d₀ a s).2] E) (gM f A n c d₀)) w w':=by
  have H:=Sep.dZ hp;unfold medianAdjacent;refine CV func296 rfl rfl rfl rfl ?_;refine Zb3 ?_;refine Vc ((a-1:Nat):Int) ?_;refine Zb2 ?_;refine Vc ((a+1:Nat):Int) ?_;refine Zb2 ?_;obtain⟨F0,fZ,iK,aQ⟩:=H.focus At0;refine aS (RD (a:=a-1) (b:=a) (m:=a+1) (s:=s) fZ hn oM oM oM rU hs (qP.into H.kept iK)) rfl rfl (λv' wa hv=>?_);obtain⟨rfl,amO,F1,hq,hs⟩:=hv;have Ha:=aQ _ F1 _ amO hq hs;refine Zb1 ?_;exact⟨rfl,Ha.turn⟩
def ak5:Sort.Hint->Int
 | .unknown=>0
 | .increasing=>1
 | .decreasing=>2
theorem agn {a b:Nat} (hp:(gM f A n c d₀).ok F w) (hn:n=d₀.size) (Ql:a+12<b) (hb:b<=n) (rU:n<=1000000) (qP:rJ prog fv f cf F w):
    aN prog 215 [.slice A n c,I a,I b,fv] w λr w'=>r=.tuple #[I (choosePivot (ltC cf) d₀ a b).1,I (ak5 (choosePivot (ltC cf) d₀ a b).2)]/\Turn F (gM f A n c d₀) w w':=by
  have H:=Sep.dZ hp;obtain⟨l,hl⟩: ∃l,l=b-a:=⟨_,rfl⟩;obtain⟨i,hi⟩: ∃i,i=a+l/4*1:=⟨_,rfl⟩;obtain⟨j,hj⟩: ∃j,j=a+l/4*2:=⟨_,rfl⟩;obtain⟨k,hk⟩: ∃k,k=a+l/4*3:=⟨_,rfl⟩;obtain⟨res,ay⟩: ∃res,res=choosePivot (ltC cf) d₀ a b:=⟨_,rfl⟩;rw[<-ay];unfold choosePivot at ay;dsimp only at ay;rw[<-hl,<-hi,<-hj,<-hk,zac (show l≥8 from oM)]at ay;refine CV func215 rfl rfl rfl rfl ?_;refine Zb4 ?_;refine Vc (l:Int) ?_;refine Zb1 ?_;refine aW H (h:=λbs w8 H8 k7=>?_);have H8:=H8.bI;refine Zb2 ?_;refine Vv (Gives.Yy (a:=l) (b:=4) rfl rfl dC oM) (Vc ((l/4*1:Nat):Int) ?_);refine Vc (i:Int) ?_;refine Zb3 ?_;refine Vv (Gives.Yy (a:=l) (b:=4) rfl rfl dC oM) (Vc ((l/4*2:Nat):Int) ?_);refine Vc (j:Int) ?_;refine Zb3 ?_;refine Vv (Gives.Yy (a:=l) (b:=4) rfl rfl dC oM) (Vc ((l/4*3:Nat):Int) ?_);refine Vc (k:Int) ?_;refine Am ?_;refine Qn (iP (λz:Nat×Nat=>[(11,aA bs),(13,I z.1)]) (λz w'=>(res=(z.1,if z.2=0 then Sort.Hint.increasing else if z.2=12 then .decreasing else .unknown))/\Sep w F [star (blk bs [I z.2] 3) (gM f A n c d₀)] w') ?_ ?_)
  . refine Za2 ?_
    refine Qn (Cp rfl (λIa=>?_) (λIa=>?_))
    . have h8:=Ia
      refine iP (λz:Nat×Nat×Nat×Nat=>[(0,.slice A n c),(3,fv),(11,aA bs),(12,I z.1),(13,I z.2.1),(14,I z.2.2.1)]) (λz w'=>((z.1<n/\z.2.1<n/\z.2.2.1<n/\z.2.2.2<=9)/\res=((median (ltC cf) d₀ z.1 z.2.1 z.2.2.1 z.2.2.2).1,if(median (ltC cf) d₀ z.1 z.2.1 z.2.2.1 z.2.2.2).2=0 then Sort.Hint.increasing else if(median (ltC cf) d₀ z.1 z.2.1 z.2.2.1 z.2.2.2).2=12 then .decreasing else .unknown))/\Sep w F [star (blk bs [I z.2.2.2] 3) (gM f A n c d₀)] w') ?_ ?_
      . refine Za2 ?_
        refine Qn (Cp rfl (λIb=>?_) (λIb=>?_))
        . rw[zac (show l≥50 from oM)]at ay
          refine Zb3 ?_;obtain⟨F0,fZ,iK,aQ⟩:=H8.focus At0;refine aS (Dk (a:=i) (s:=0) fZ hn oM oM rU dC (qP.into H8.kept iK)) rfl rfl (λv' wa hv=>?_);obtain⟨rfl,arf,F1,hq,hs⟩:=hv;have Ha:=aQ _ F1 _ arf hq hs;obtain⟨hm1,Ke⟩:=median_mem (cf:=cf) (d:=d₀) (s:=0) (p:=λx=>x<n) (a:=i-1) (b:=i) (m:=i+1) oM oM oM;obtain⟨ri,hri⟩: ∃ri,ri=medianAdjacent (ltC cf) d₀ i 0:=⟨_,rfl⟩;rw[show median (ltC cf) d₀ (i-1) i (i+1) 0=ri from hri.symm]at hm1 Ke;rw[<-hri]at ay Ha ⊢;refine Zb4 ?_;obtain⟨F0,fZ,iK,aQ⟩:=Ha.focus At0;refine aS (Dk (a:=j) (s:=ri.2) fZ hn oM oM rU oM (qP.into Ha.kept iK)) rfl rfl (λv' wb hv=>?_);obtain⟨rfl,arh,F1,hq,hs⟩:=hv;have Hb:=aQ _ F1 _ arh hq hs;obtain⟨hm3,hm4⟩:=median_mem (cf:=cf) (d:=d₀) (s:=ri.2) (p:=λx=>x<n) (a:=j-1) (b:=j) (m:=j+1) oM oM oM;obtain⟨rj,hrj⟩: ∃rj,rj=medianAdjacent (ltC cf) d₀ j ri.2:=⟨_,rfl⟩;rw[show median (ltC cf) d₀ (j-1) j (j+1) ri.2=rj from hrj.symm]at hm3 hm4;rw[<-hrj]at ay Hb ⊢;refine Zb4 ?_;obtain⟨F0,fZ,iK,aQ⟩:=Hb.focus At0;refine aS (Dk (a:=k) (s:=rj.2) fZ hn oM oM rU oM (qP.into Hb.kept iK)) rfl rfl (λv' wc hv=>?_);obtain⟨rfl,arj,F1,hq,hs⟩:=hv;have Hc:=aQ _ F1 _ arj hq hs;obtain⟨hm5,hm6⟩:=median_mem (cf:=cf) (d:=d₀) (s:=rj.2) (p:=λx=>x<n) (a:=k-1) (b:=k) (m:=k+1) oM oM oM;obtain⟨rk,hrk⟩: ∃rk,rk=medianAdjacent (ltC cf) d₀ k rj.2:=⟨_,rfl⟩;rw[show median (ltC cf) d₀ (k-1) k (k+1) rj.2=rk from hrk.symm]at hm5 hm6
          rw[<-hrk]at ay Hc ⊢;refine Zb1 ?_;exact aG (ri.1,rj.1,rk.1,rk.2) tR ⟨⟨⟨hm1,hm3,hm5,dO⟩,ay⟩,Hc⟩
        rw[zab (show ¬l≥50 from oM)]at ay;refine Zb0 ?_;exact aG (i,j,k,0) tR ⟨⟨⟨dO,dO,dO,zak _⟩,ay⟩,H8⟩
      rintro⟨i',j',k',s⟩ τ wd ⟨⟨⟨hi',hj',hk',Zt⟩,hr⟩,Hd⟩;dsimp only at hi' hj' hk' Zt hr Hd;simp only[dA,like,bB,bY];refine Zb5 ?_;obtain⟨F0,fZ,iK,aQ⟩:=Hd.focus At0;refine aS (RD (a:=i') (b:=j') (m:=k') (s:=s) fZ hn hi' hj' hk' rU oM (qP.into Hd.kept iK)) rfl rfl (λv' we hv=>?_);obtain⟨rfl,ark,F1,hq,hs⟩:=hv;have He:=aQ _ F1 _ ark hq hs;refine Zb1 ?_;exact aG (median (ltC cf) d₀ i' j' k' s) tR ⟨hr,He⟩
    exact zat Ia oM
  rintro⟨p,s⟩ τ wf ⟨hr,Hf⟩;dsimp only at hr Hf;have Hf:=Hf.dG;simp only[dA,like,bB,bY];refine Za3 ?_;refine Qn (Cp rfl (λIc=>?_) (λIc=>?_))
  . have hs0:s=0:=by have:=Ic;omega
    rw[zac hs0]at hr;refine Zb3 ?_;exact⟨by rw[hr];rfl,(Hf.eF).turn⟩
  have hs0:s≠0:=by have:=Ic;omega
  rw[zab hs0]at hr;refine Za2 ?_;refine Qn (Cp rfl (λId=>?_) (λId=>?_))
  . have Sa:s=12:=by have:=Id;omega
    rw[zac Sa]at hr;refine Zb3 ?_;exact⟨by rw[hr];rfl,(Hf.eF).turn⟩
  have Sa:s≠12:=by have:=Id;omega
  rw[zab Sa]at hr;refine Zb3 ?_;exact⟨by rw[hr];rfl,(Hf.eF).turn⟩
end
end Go.Proofs.YtkfpleidaoaonaaGreatDoor
