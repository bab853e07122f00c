/-
 From a contract to a row:arguments read as rows;what a law's row asks behind the call. Nothing of a given program stands here.
-/
import Derived.Test.YtkfpleidaoaonaaGreatDoorNu1
import Derived.Test.YtkfpleidaoaonaaGreatDoorNu4
import Derived.ProofKit
import Derived.Carry
import Derived.ChangeSame
import Derived.Deep.Slices
import Derived.Deep.Fields
import Derived.Test.YtkfpleidaoaonaaGreatDoorNu10
import Derived.Test.YtkfpleidaoaonaaGreatDoorRows
import Derived.PinnedBridge
import Derived.Lib.LaidU8
import Derived.Stop.LaidErr
import Derived.Deep.DeepHandedRow
import Derived.Lay
import Derived.MakeChecks
import Derived.Test.YtkfpleidaoaonaaGreatDoorNu9
import Derived.ChangeMaps5
import Derived.Test.YtkfpleidaoaonaaGreatDoorNu13
import Derived.OpenShut
import Derived.Test.YtkfpleidaoaonaaGreatDoorNu25
import Derived.Test.YtkfpleidaoaonaaGreatDoorNu26
import Derived.Test.YtkfpleidaoaonaaGreatDoorNu22
import Derived.JoinedOf
import Derived.Test.YtkfpleidaoaonaaGreatDoorNu3
import Derived.Test.YtkfpleidaoaonaaGreatDoorNu19
import Derived.Test.YtkfpleidaoaonaaGreatDoorNu18
set_option linter.unusedVariables false
set_option linter.unusedSimpArgs false
namespace Go.Mw
open Go.RowKit Go.ChangeShapes Go.WideShapes Go.Deep
section
variable {H:Type} {enc:Td×Value->H} {P:Program}
theorem FP (hl:laidOutB P=true) {W W':Wd} (hk:Kept noB W W') {sp:Nat->Bool}: ∀{ts:List Td} {vs:LV} {ds:List (DataW H)} {ps:List MemPlace},(∀t∈ts,P.readableRec t=true/\t<P.types.size)->
    DataW.TrodAll enc P W 0 (λ_=>true) true ts vs ds ps->(∀x∈ps,x.block<W.heap.size)->(∀x∈ps,sp x.block=true)->DataW.TrodAll enc P W' 0 sp true ts vs ds ps
  | [],[],[],_,_,h,_,_=>h
  | t::ts,v::vs,d::ds,ps,ht,⟨p,q,h1,h2,e⟩,bX,Cm=>by
    subst e
    exact⟨p,q,WideElems.Trod_stays hl (ht t zah).1 (ht t zah).2 h1 (λx hx=>hk.below.same (bX x (zcg _ hx))) (λx hx=>Cm x (zcg _ hx)),
      FP hl hk (λu hu=>ht u (zai _ hu)) h2 (λx hx=>bX x (zch _ hx)) (λx hx=>Cm x (zch _ hx)),rfl⟩
  | [],[],_::_,_,_,h,_,_=>h.elim
  | [],_::_,_,_,_,h,_,_=>by cases ‹List (DataW H)› <;>exact h.elim
  | _::_,[],_,_,_,h,_,_=>h.elim
  | _::_,_::_,[],_,_,h,_,_=>h.elim
theorem AQ {f:Func} {s:ChangeSpec} {apart fresh akR again:Bool} {W W':Wd} {args:Array Value} {t:Td} {ds gs:List (DataW H)} {before:List MemPlace} (hl:laidOutB P=true)
    (hW:DataW.Whole enc P f.params.toList s.vars apart W args.toList ds gs before) (alD:s.vars=[]) (hr:f.resultTypes= #[t]) (hb:P.underlying t=some .bool) (fZ:(f.params.toList.all λt=>P.readableRec t&&decide (t<P.types.size))=true)
    (hs:s.fn H (ds++gs)={results:=[.lit (.bool true)],args:=ds}) (hk:Kept noB W W') (gT:Value.okWide P W' .any 0 t (.bool true)):s.post enc P f apart fresh akR again W args (.bool true) W':=by
  have hp: ∀t∈f.params.toList,P.readableRec t=true/\t<P.types.size:=λt ht=>by
    have:=zaz.1 fZ t ht;simpa using this
  have hW':=hW;obtain⟨pa,pv,hA,hV,rfl,hz,hn⟩:=hW
  have afA:gs=[]/\pv=[]:=by
    rw[alD]at hV;exact trodVars_none hV
  obtain⟨rfl,rfl⟩:=afA;have bX: ∀p∈pa,p.block<W.heap.size:=λp hp=>hW'.lt p (zcg _ hp)
  have ay: ∀(b:Nat) (sp:Nat->Bool) (hd:Bool),DataW.TrodAll enc P W' b sp hd f.resultTypes.toList ((Value.bool true).resultList f.resultTypes.size) (s.fn H (ds++[])).results []:=by
    intro b sp hd;rw[hs,hr];exact trodAll_mk1 (shut_bool hb true)
  have Ga: ∀sp:Nat->Bool,(∀p∈pa,sp p.block=true)->DataW.TrodAll enc P W' 0 sp true f.params.toList args.toList (s.fn H (ds++[])).args pa:=by
    intro sp Cm;rw[hs];exact FP hl hk hp hA bX Cm
  have hvs: ∀sp:Nat->Bool,DataW.TrodVars enc P W' sp s.vars (s.fn H (ds++[])).vars []:=by
    intro sp;rw[alD,hs];exact rfl
  refine⟨ds,[],pa++[],[],pa,[],hW',ay _ _ _,Ga _ (λp hp=>by simpa using bX p hp),hvs _,World.keptBut_mono (λp hp=>⟨hp,?_⟩) (hk.below.frame (· ∈pa++[])),λ_=>?_⟩
  . simpa using hp
  refine⟨λj t' r hj hv=>?_,_,_,([]++pa)++[],⟨[]++pa,[],trodAll_append (Ga _ (λ_ _=>rfl)) (ay _ _ _),hvs _,rfl,?_,?_⟩,?_⟩
  . exact ok_one hr rfl gT j t' r hj hv
  . intro b off hp
    have hin:MemPlace.cell b off∈pa:=by simpa using hp
    rw[hk.below.frozen (bX _ hin)];exact hz b off (by simpa using hin)
  . intro ha
    have:=hn ha;simpa using this
  intro p hp _;simpa using hp
theorem DC {α:Type} {Q:Nat->α->Prop}: ∀n:Nat,(∀i,i<n->∃x,Q i x)->∃l:List α,l.length=n/\∀i x,l[i]? =some x->Q i x
 | 0,_=>⟨[],rfl,λi x h=>by simp at h⟩
 | n+1,h=>by
  obtain⟨l,h1,h2⟩:=DC n λi hi=>h i oM;obtain⟨x,hx⟩:=h n oM;refine⟨l++[x],by simp[h1],λi y hy=>?_⟩;rw[List.getElem?_append]at hy
  split at hy
  .exact h2 i y hy
  rename_i hge
  have hi:i=n:=by
   rcases zdz (i-l.length) 1 with h3 | h3
   .omega
   rw[zcs (by simpa using h3)]at hy;cases hy
  subst hi;rw[h1,zev]at hy;injection hy with hy
  rw[<-hy];exact hx
theorem DF {α:Type} {f:α->LV} {s:Nat} (hf: ∀x,(f x).length=s): ∀(l:List α) (k:Nat) (v:Value),(l.flatMap f)[k]? =some v->∃i j x,l[i]? =some x/\(f x)[j]? =some v/\k=i*s+j
 | [],k,v,h=>by simp at h
 | x::l,k,v,h=>by
  rw[zbg,List.getElem?_append]at h
  split at h
  .exact⟨0,k,x,rfl,h,oM⟩
  rename_i hge;obtain⟨i,j,y,h1,h2,h3⟩:=DF hf l _ v h;rw[hf]at h3 hge;exact⟨i+1,j,y,by simpa using h1,h2,by rw[Nat.add_mul];omega⟩
theorem DI {α:Type} {f:α->LV} {s:Nat} (hf: ∀x,(f x).length=s): ∀l:List α,(l.flatMap f).length=l.length*s
 | []=>sM
 | x::l=>by rw[zbg,zad,hf,DI hf l,zal,Nat.add_mul];omega
theorem qY {α:Type} {f:α->LV} {good:α->Prop} {s:Nat} {t e:Td} {W:Wd} {r:Reach} {base:Nat} {v:Value} {d:DataW H} {ps:List MemPlace} (ht:P.underlying t=some (.slice e)) (hC:P.cellsOf e=s) (hf: ∀x,(f x).length=s)
    (hel: ∀n cs y,cs.length=s->DataW.trod enc P W 0 (λ_=>true) true n e cs=some y->∃x,cs=f x/\good x) (hv:Value.okWide P W r base t v) (h:DataW.Trod enc P W 0 (λ_=>true) true t v d ps):
    ∃A c,∃l:List α,v=.slice A l.length c/\l.length<=c/\c<=maxLen/\jB W A l.length s (l.flatMap f)/\∀x∈l,good x:=by
  obtain⟨a0,len0,cap0,rfl⟩:=okWide_slice ht hv;obtain⟨fuel,hfu⟩:=h
  rcases open_slice ht hfu with⟨h0,_⟩ | ⟨a,len,cap,m,n,D,Pl,hcs,_,hl,hm,hmm,_,hi⟩
  . have h0:[Value.slice a0 len0 cap0]=[.slice none 0 0]:=h0
    injection h0 with h0 _
    exact⟨none,0,[],h0,zbf _,zak _,jB.nil _ _ _,λ_ h=>by cases h⟩
  have hcs:[Value.slice a0 len0 cap0]=[.slice (some a) len cap]:=hcs;injection hcs with hcs _
  have Ke:m=cap:=by simpa using hmm
  subst Ke
  obtain⟨l,h1,h2⟩:=DC (α:=α) (Q:=λi x=>good x/\∀j u,(f x)[j]? =some u->W.cell? (a.add (i*s+j))=some u) len (λi hi'=>by
    obtain⟨cs',hc,ht'⟩:=hi i oM;rw[hC]at hc;obtain⟨_,V8,hat⟩:=World.cells?_some hc;obtain⟨x,hx,hg⟩:=hel _ _ _ V8 ht';refine⟨x,hg,λj u hu=>?_⟩;have hj:j<s:=by rw[<-hf x];exact(zbd.1 hu).1
    have Kg:=hat j hj;rw[<-Go.Deep.add_add,Kg,hx];exact hu)
  subst h1;refine⟨some a,m,l,hcs,hl,hm,⟨DI hf l,λ_=>⟨a,rfl,λk u hk=>?_⟩⟩,λx hx=>?_⟩
  . obtain⟨i,j,x,hi',hj,rfl⟩:=DF hf l k u hk
    exact(h2 i x hi').2 j u hj
  obtain⟨i,hi'⟩:=List.mem_iff_getElem?.1 hx;exact(h2 i x hi').1
theorem eT {e:Td} {fs:Array Field} {W:Wd} {base n:Nat} {sp:Nat->Bool} {held:Bool} {cs:LV} {y:DataW H×List MemPlace} (he:P.underlying e=some (.struct fs)) (rA:oneCellFields P fs=true) (h:DataW.trod enc P W base sp held n e cs=some y) (_hC:P.cellsOf e=fs.size) (V8:cs.length=fs.size):
    ∀(j:Nat) (fd:Field),fs[j]? =some fd->∃v y' n',cs[j]? =some v/\DataW.trod enc P W base sp held n' fd.type [v]=some y':=by
  obtain⟨ys,n',Zp,hy,hlen,hyl,hf⟩:=DataW.trod_struct he h;intro j fd hj;obtain⟨ho,hk⟩:=hone_of rA j fd hj;have hjl:j<fs.size:=(zcz.1 hj).1;have h1:=hf j fd hj;rw[ho,hk]at h1
  have hone':(cs.drop j).take 1=[cs[j]'oM]:=by
    rw[zbq oM];rfl
  rw[hone']at h1;have hys:ys[j]? =some (ys[j]'oM):=zaa oM;exact⟨_,_,_,zaa oM,h1.trans hys⟩
end
end Go.Mw
namespace Go.Proofs.YtkfpleidaoaonaaGreatDoor
open Go Go.Mw Go.Lib Go.RowKit Go.Proofs.Tryz
set_option maxRecDepth 100000
theorem Tw:ownKnob prog.godebug=none:=kR
theorem K8:laidOutB prog=true:=kR
def acG:List (String×DataW Unit):=[("math/bits.deBruijn32tab",Rows.laid_math_bits_deBruijn32tab),("math/bits.deBruijn64tab",Rows.laid_math_bits_deBruijn64tab),("internal/strconv.uint64pow10",Rows.laid_internal_strconv_uint64pow10),("unicode/utf8.acceptRanges",Rows.laid_unicode_utf8_acceptRanges),("strconv.ErrRange",Rows.laid_strconv_ErrRange),("strconv.ErrSyntax",Rows.laid_strconv_ErrSyntax),("unicode/utf8.first",Rows.laid_unicode_utf8_first)]
theorem aj3:U8Extra prog Tryz.lays260_ren:=⟨kR,kR,kR,kR,kR,kR,kR⟩
theorem ahs:Rows.laid_unicode_utf8_first=firstData:=Pinned.utf8First_eq
theorem aeE:(Rows.laid_unicode_utf8_acceptRanges:DataW Unit)=acceptData:=kR
theorem pow_eq:(Rows.laid_internal_strconv_uint64pow10:DataW Unit)=tabData .u64 pow10Tab:=kR
theorem acH: "*" ++ "errors.errorString" = "*errors.errorString" :=dC
theorem aht (u:Td) (h:prog.typeName? 3 u=some "*errors.errorString"):u=400:=
 typeName_ptr_named (nm:= "errors.errorString") (by rw[acH];kernel_rfl) kR dC u (by rw[acH];exact h)
theorem Yo:prog.cellsOf 402=1:=kR
theorem Yp:prog.cellsOf 9=1:=kR
theorem AU {W:Wd} (h0:laidMetH prog acG W) (Q7:W.ShapedOpen prog):fA W:=by
 rw[MakeChecks.laidMetH_plain _ _ _ kR]at h0;have h:=h0;refine⟨?_,?_,?_,?_,?_⟩
 .exact utf8Tabs_of_reads Tryz.lays260 aj3 (ahs▸Lib.laidMet.reads h (by unfold acG;simp)) (aeE▸Lib.laidMet.reads h (by unfold acG;simp))
 .obtain⟨g,t,cs,fuel,p,hg,hty,hvar,hd⟩:=Lib.laidMet.reads (n:= "internal/strconv.uint64pow10") h (by unfold acG;exact .tail _ (.tail _ (.head _)))
  have hg':prog.globalNamed "internal/strconv.uint64pow10" =some 3:=kR;obtain rfl:=Option.some.inj (hg'.symm.trans hg);have hty':(prog.globals[3]?).map (·.type)=some 404:=kR;obtain rfl:=Option.some.inj (hty'.symm.trans hty);rw[pow_eq]at hd;have hcs:=cells_of_tab underlying404 underlying121 kR kR hd;unfold Lib.TabIs;rw[hvar,<-hcs]
 .obtain⟨a,s,hv,_⟩:=laid_sentinel (g:=1) (ti:=183) (tp:=400) (te:=402) (ts:=9) h.tail.tail.tail.tail.tail kR kR underlying183 aht underlying400 underlying402 rfl rfl underlying9 Yo Yp
  exact⟨_,_,hv⟩
 .obtain⟨a,s,hv,_⟩:=laid_sentinel (g:=2) (ti:=183) (tp:=400) (te:=402) (ts:=9) h.tail.tail.tail.tail kR kR underlying183 aht underlying400 underlying402 rfl rfl underlying9 Yo Yp
  exact⟨_,_,hv⟩
 exact Tryz.laysM219.s1_3 W Q7
open Go.ChangeShapes Go.WideShapes
section
variable {H:Type} {enc:Td×Value->H} {W:Wd} {r:Reach} {base:Nat} {v:Value} {d:DataW H} {ps:List MemPlace}
theorem BX {n:Int} {k:IntKind} (hk:k=.i64) (h:(Lit.int k n).wf=true):fits n:=by
 subst hk;simp[Lit.wf,IntKind.min,IntKind.max,IntKind.bits,IntKind.signed]at h;unfold fits;omega
theorem oZ (s:ByteArray):Value.string s=str s.data.toList:=by
 unfold str
 congr 1
theorem xR {n:Nat} {cs:LV} {y:DataW H×List MemPlace} (hl:cs.length=3) (hc:DataW.trod enc prog W 0 (λ_=>true) true n 52 cs=some y): ∃x:aI,cs=aj x/\fits x.n:=by
 have hf:=eT underlying52 kR hc kR hl;obtain⟨v0,_,_,rD,h0⟩:=hf 0 _ rfl;obtain⟨v1,_,_,rX,h1⟩:=hf 1 _ rfl;obtain⟨v2,_,_,Jd,h2⟩:=hf 2 _ rfl;obtain⟨b,hb,_⟩:=DataW.trod_bool underlying4 h0;obtain⟨m,hm,_,wm⟩:=DataW.trod_int underlying2 h1;obtain⟨s,hs,_⟩:=DataW.trod_string underlying9 h2;injection hb with hb _
 injection hm with hm _
 injection hs with hs _
 subst hb hm hs
 match cs,hl with
 | [c0,c1,c2],_=>
  simp at rD rX Jd;subst rD rX Jd;refine⟨⟨b,m,s.data.toList⟩,?_,BX rfl wm⟩;rw[oZ];rfl
theorem iO {α:Type} {f:α->LV} {k c:Nat} {A:OA} {l:List α} (hc:l.length<=c) (hm:c<=maxLen) (h:jB W A l.length k (l.flatMap f)):aM W (.slice A l.length c) f k l:=
 ⟨A,c,rfl,⟨hc,by unfold maxLen at hm;omega⟩,h⟩
end
end Go.Proofs.YtkfpleidaoaonaaGreatDoor
namespace Go.Mw
open Go.RowKit Go.ChangeShapes Go.WideShapes Go.Deep
section
variable {H:Type} {enc:Td×Value->H} {P:Program}
theorem iy {α:Type} {f:α->LV} {good:α->Prop} {s:Nat} {t e:Td} {W:Wd} {v:Value} {n0:Nat} {y:DataW H×List MemPlace} (ht:P.underlying t=some (.slice e)) (hC:P.cellsOf e=s) (hf: ∀x,(f x).length=s)
    (hel: ∀n cs y,cs.length=s->DataW.trod enc P W 0 (λ_=>true) true n e cs=some y->∃x,cs=f x/\good x) (h:DataW.trod enc P W 0 (λ_=>true) true n0 t [v]=some y):
    ∃A c,∃l:List α,v=.slice A l.length c/\l.length<=c/\c<=maxLen/\jB W A l.length s (l.flatMap f)/\∀x∈l,good x:=by
  rcases open_slice ht h with⟨h0,_⟩ | ⟨a,len,cap,m,n,D,Pl,hcs,_,hl,hm,hmm,_,hi⟩
  . injection h0 with h0 _
    exact⟨none,0,[],h0,zbf _,zak _,jB.nil _ _ _,λ_ h=>by cases h⟩
  injection hcs with hcs _
  have Ke:m=cap:=by simpa using hmm
  subst Ke
  obtain⟨l,h1,h2⟩:=DC (α:=α) (Q:=λi x=>good x/\∀j u,(f x)[j]? =some u->W.cell? (a.add (i*s+j))=some u) len (λi hi'=>by
    obtain⟨cs',hc,ht'⟩:=hi i oM;rw[hC]at hc;obtain⟨_,V8,hat⟩:=World.cells?_some hc;obtain⟨x,hx,hg⟩:=hel _ _ _ V8 ht';refine⟨x,hg,λj u hu=>?_⟩;have hj:j<s:=by rw[<-hf x];exact(zbd.1 hu).1
    have Kg:=hat j hj;rw[<-Go.Deep.add_add,Kg,hx];exact hu)
  subst h1;refine⟨some a,m,l,hcs,hl,hm,⟨DI hf l,λ_=>⟨a,rfl,λk u hk=>?_⟩⟩,λx hx=>?_⟩
  . obtain⟨i,j,x,hi',hj,rfl⟩:=DF hf l k u hk
    exact(h2 i x hi').2 j u hj
  obtain⟨i,hi'⟩:=List.mem_iff_getElem?.1 hx;exact(h2 i x hi').1
end
end Go.Mw
namespace Go.Proofs.YtkfpleidaoaonaaGreatDoor
open Go Go.Mw Go.ChangeShapes Go.WideShapes Go.RowKit
set_option maxRecDepth 4000
section
variable {H:Type} {enc:Td×Value->H} {W:Wd} {r:Reach} {base:Nat} {v:Value} {d:DataW H} {ps:List MemPlace}
end
open Go.Lib
section
variable {w:Wd}
end
section
variable {w:Wd}
end
end Go.Proofs.YtkfpleidaoaonaaGreatDoor
namespace Go.Mw
open Go.RowKit
section
variable {P:Program} {ρ:Od->Value} {ty:Td} {w w0:Wd} {x y:Od} {α:Type} {enc:α->LV} {k:Nat} {l:List α} {A:OA}
end
end Go.Mw
namespace Go.Proofs.YtkfpleidaoaonaaGreatDoor
open Go Go.Mw Go.Lib
set_option maxRecDepth 4000
def aeF (x:Int×Int):LV:=[I x.1,I x.2]
instance:lY aeF 2:=⟨λ_=>rfl⟩
section
variable {w:Wd}
end
end Go.Proofs.YtkfpleidaoaonaaGreatDoor
namespace Go.Proofs.YtkfpleidaoaonaaGreatDoor
open Go Go.Mw Go.ChangeShapes Go.WideShapes Go.RowKit
set_option maxRecDepth 4000
section
variable {H:Type} {enc:Td×Value->H} {W:Wd} {r:Reach} {base:Nat} {v:Value} {d:DataW H} {ps:List MemPlace}
end
section
variable {H:Type} {enc:Td×Value->H} {W:Wd} {r:Reach} {base:Nat} {v:Value} {d:DataW H} {ps:List MemPlace}
end
open Go.Proofs.Tryz
theorem yK {W:Wd}: ∀r:List (Value×Int),(∀x∈r,(∃l,aM W x.1 aj 3 l/\jX l)/\fits x.2)->∃l:List aH,fM W r l/\∀o∈l,bR o
 | [],_=>⟨[],⟨rfl,λi x o h=>by cases h⟩,λo h=>zat h zaj⟩
 | x::r,h=>by
  obtain⟨⟨l,hl,hf⟩,hw⟩:=h x zah;obtain⟨q,⟨h1,h2⟩,hc⟩:=yK r λy hy=>h y (zai _ hy);refine⟨⟨l,x.2⟩::q,⟨by rw[zax,zax,h1],λi y o hy ho=>?_⟩,λo ho=>?_⟩
  .cases i with
   | zero=>
    rw[zbp]at hy ho;injection hy with hy
    injection ho with ho
    subst hy ho;exact hl
   | succ i=>exact h2 i y o hy ho
  rcases zap.1 ho with e | e
  .subst e;exact⟨hw,hf⟩
  exact hc o e
section
variable {H:Type} {enc:Td×Value->H} {W:Wd} {r:Reach} {base:Nat} {v:Value} {d:DataW H} {ps:List MemPlace}
theorem ahu {n0:Nat} {y:DataW H×List MemPlace} (h:DataW.trod enc prog W 0 (λ_=>true) true n0 80 [v]=some y): ∃l:List aI,aM W v aj 3 l/\jX l:=by
 obtain⟨A,c,l,rfl,h2,h3,h4,h5⟩:=iy (f:=aj) (good:=λx:aI=>fits x.n) (s:=3) underlying80 kR (λ_=>rfl) (λn cs y hl hc=>xR hl hc) h;exact⟨l,iO h2 h3 h4,h5⟩
theorem xS {n:Nat} {cs:LV} {y:DataW H×List MemPlace} (hl:cs.length=2) (hc:DataW.trod enc prog W 0 (λ_=>true) true n 82 cs=some y): ∃x:Value×Int,cs=av x/\(∃l,aM W x.1 aj 3 l/\jX l)/\fits x.2:=by
 have hf:=eT underlying82 kR hc kR hl;obtain⟨v0,_,_,rD,h0⟩:=hf 0 _ rfl;obtain⟨v1,_,_,rX,h1⟩:=hf 1 _ rfl;obtain⟨l,hr,Fy⟩:=ahu h0;obtain⟨m,hm,_,wm⟩:=DataW.trod_int underlying2 h1;injection hm with hm _
 subst hm
 match cs,hl with
 | [c0,c1],_=>
  simp only[zbp,zby,Option.some.injEq]at rD rX;subst rD rX;exact⟨(c0,m),rfl,⟨l,hr,Fy⟩,BX rfl wm⟩
end
def DJ (P:Program) (f:FuncId) (fn:Func) (s:ChangeSpec) (c:OpenClaim):Bool:=
 c.wf (OpenSpec.ofChange s)&&laidOutB P&&mapsRowed P&&
 fn.params.all (P.readableRec ·)&&namedTie P c.named s.vars&&
 (c.stops==[])&&(P.stops==[])&&(c.knobs==[])&&(P.stopKnobs==[])&&
 (c.inPlace==P.inPlace f)&&(c.unfollowed==P.unfollowed f)&&(c.recurses==P.recurses f)&&(c.named==P.varsNamed f)
def DK (P:Program) (fn:Func) (s:ChangeSpec) (c:OpenClaim):Bool:=
 (c.maps==(fn.params.toList++s.plain.varTypes P).any (P.mapsRec ·))&&(c.ifaces==(fn.params.toList++s.plain.varTypes P).any (P.ifacesRec ·))&&(c.mapsOut==P.mapsAmong fn.resultTypes.toList)&&
 (c.loops==(fn.params.toList++s.plain.varTypes P).any (P.loopsFrom ·))&&(c.wideKeys==(fn.params.toList++s.plain.varTypes P++fn.resultTypes.toList).any (P.wideKeysFrom ·))&&
 s.vars.all (P.varReadable ·)&&fn.resultTypes.all (λt=>P.readableRec t&&decide (t<P.types.size))&&(c.ifacesOut==fn.resultTypes.toList.any (P.ifacesRec ·))&&(c.loopsOut==fn.resultTypes.toList.any (P.loopsFrom ·))&&(c.plainKeys==P.plainKeys)&&c.shortTexts.isNone
def DL (P:Program) (fn:Func) (s:ChangeSpec) (c:OpenClaim):Bool:=
 P.stopsHeard&&P.mayEnter&&(c.lifted==P.liftsFinal)&&(P.make==some c.make)&&(c.kinds==(if c.domain.isEmpty then []else fn.params.toList.map λt=>match P.underlying t with | some (.int k)=>some k | _=>none))&&(c.pinned==c.pinnedBy)&&
 (c.veiled==(fn.params.toList++s.plain.varTypes P++fn.resultTypes.toList).any (P.veiledRec ·))&&c.veiledFits P fn.params.toList (fn.params.toList++s.plain.varTypes P++fn.resultTypes.toList)
theorem xU {P:Program} {f:FuncId} {fn:Func} {s:ChangeSpec} {c:OpenClaim} (h1:DJ P f fn s c=true) (h2:DK P fn s c=true) (h3:DL P fn s c=true):joinedFacts P f fn s c=true:=by
 simp only[DJ,zbv]at h1;simp only[DK,zbv]at h2;simp only[DL,zbv]at h3;simp only[joinedFacts,zbv];simp only[h1,h2,h3,and_self,and_true,zfq];exact h3.1.1.1.2
open Go.Lib
attribute [local irreducible] FW FL FG FGn gu gy dh gH Qfn Gives
structure FQ (p:aZ) (T:List aH) (k:Nat):Prop where
 hold:mg p T
 few:T.length<=k
theorem aa5 {cols:List bL} {p:aZ} {T l:List aH}:(dw cols p T l).length<=T.length+l.length:=by
 unfold dw
 split
 .have:=uP (cols:=cols) (p:=p) l
  rw[zad];omega
 omega
theorem FQ.step {cols:List bL} {p:aZ} {T l:List aH} {k n:Nat} (h:FQ p T k) (hf:iR p) (hl: ∀x∈l,bR x) (hn:l.length<=n) (hk:k+n<=100):FQ p (dw cols p T l) (k+n):=by
 have:=h.few;have:=aa5 (cols:=cols) (p:=p) (T:=T) (l:=l);exact⟨oV h.hold hf.2 hl oM,oM⟩
section
variable {w w0:Wd} {S:NP} {rs:List HP} {put:HP->List HP} {a b l:List aH} {v va vb:Value} {k m:Nat}
theorem agf (ha:cZ w va a) (hb:cZ w vb b) (sa:nW k a) (sb:nW m b) (hk:k<=500) (hm:m<=500) (za:isZ a) (zb:isZ b):
    aN Tryz.prog 30 [va,vb] w λu w'=>∃x:Value×List Held,u=.tuple #[x.1,I (UW a b).2]/\x.2.map (·.2)=(UW a b).1/\Turn noB (dR x.1 x.2) w w':=by
  have h1:=sa.few;have h2:=sb.few;rw[<-acr za zb];exact RJ ha hb oM oM sa.fit sb.fit (λx hx=>by have:=sa.row x hx;omega) (λx hx=>by have:=sb.row x hx;omega)
end
section
variable {w:Wd}
end
structure alc where
 i:Nat
 s:QJ
 l2:List aH
 v1:Value
 v2:Value
 v3:Value
 r1:List (Value×Int)
 r2:List (Value×Int)
 L:List Held
structure JQ (cols:List bL) (p:aZ) (i:Nat) (s:QJ) (l2:List aH):Prop where
 good:goodRun cols p s
 perm:s.all.Perm l2
 len:s.all.length<=10*i
 fit: ∀y∈s.all,bR y
 held:FQ p s.T (10*i)
 outs:nW (130*i) s.outs
theorem JQ.step {cols:List bL} {p:aZ} {i:Nat} {s:QJ} {l2 l:List aH} (h:JQ cols p i s l2) (fq:(bQ cols p).2=0) (hf:iR p) (hl: ∀x∈l,bR x) (hn:l.length<=10) (hi:i<6) (hg:(dB cols p s.T l).2=0):
    JQ cols p (i+1) ⟨dw cols p s.T l,s.all++l,s.outs++(dB cols p s.T l).1⟩ (l++l2):=by
  have h1:=agE (l:=l) h.good;unfold U6 at h1;rw[zac hg]at h1;have h2:=h.len;have h3:=h.held.few;refine⟨h1,(h.perm.append_right l).trans List.perm_append_comm,by dsimp only;rw[zad];omega,λy hy=>(zbh.1 hy).elim (h.fit y) (hl y),h.held.step hf hl hn oM,?_⟩;exact(h.outs.app (vD fq hf h.held.hold hl)).mono oM
theorem JQ.same {cols:List bL} {p:aZ} {i:Nat} {s:QJ} {l2:List aH} (h:JQ cols p i s l2):JQ cols p (i+1) s l2:=
 ⟨h.good,h.perm,by have:=h.len;omega,h.fit,⟨h.held.hold,by have:=h.held.few;omega⟩,h.outs.mono oM⟩
section
variable {w w0:Wd} {S:NP} {rs:List HP} {put:HP->List HP} {v:Value} {L:List Held} {l:List aH}
end
section
variable {w:Wd}
end
theorem fM.tail {w:Wd} {x:Value×Int} {o:aH} {r:List (Value×Int)} {l:List aH} (h:fM w (x::r) (o::l)):x.2=o.w/\aM w x.1 aj 3 o.row/\fM w r l:=by
 obtain⟨h1,h2⟩:=h;rw[zax,zax]at h1;injection h1 with e1 e2
 exact⟨e1,h2 0 x o rfl rfl,e2,λi y p hy hp=>h2 (i+1) y p hy hp⟩
theorem fM.cons {w:Wd} {v:Value} {o:aH} {r:List (Value×Int)} {l:List aH} (hx:aM w v aj 3 o.row) (h:fM w r l):fM w ((v,o.w)::r) (o::l):=fM.app (.one hx) h
section
variable {w w0:Wd} {S:NP} {rs:List HP} {b:Nat} {cols:List bL} {p:aZ} {T l:List aH} {v:Value} {r:List (Value×Int)} {X:Wd->Prop}
end
section
variable {w:Wd}
end
section
variable {w:Wd}
end
section
variable {w:Wd}
end
end Go.Proofs.YtkfpleidaoaonaaGreatDoor
