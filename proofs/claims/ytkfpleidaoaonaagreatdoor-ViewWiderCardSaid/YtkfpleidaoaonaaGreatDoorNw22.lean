/-
 Calls without a body,in regions that draw. Nothing of a given program stands here.
-/
import Derived.Test.YtkfpleidaoaonaaGreatDoorNw1
import Derived.Test.YtkfpleidaoaonaaGreatDoorNw13
import Derived.Test.YtkfpleidaoaonaaGreatDoorNw3
import Derived.Test.YtkfpleidaoaonaaGreatDoorNw21
import Derived.Laws.LoneSync
import Derived.Test.YtkfpleidaoaonaaGreatDoorNw2
import Derived.Test.YtkfpleidaoaonaaGreatDoorNw19
import Derived.Test.YtkfpleidaoaonaaGreatDoorNw18
import Derived.Test.YtkfpleidaoaonaaGreatDoorNw20
set_option linter.unusedVariables false
set_option linter.unusedSimpArgs false
namespace Go.Mw
open Go.RowKit
section
variable {P:Program} {r:Option Nat} {n:Nat} {ops:AO} {Q:Post} {σ:St} {w w':Wd} {ty:Td} {pos:String} {after:Array Edge} {guard:Option (Nat×Bool)} {lv:List Bool} {pd:LNB}
theorem ald (eH:dJ n ops=true) (i:Nat) (pd':LNB) {d:Nat} {f:FuncId} {xs:List Od} {ats:Array Td} {vals:LV} {v:Value} (hc:(callFunc f vals.toArray).run P w=.ok (.value v) w')
    (ho:ops[i]? =some ⟨some d,.call {callee:=.value (.func f),args:=xs.toArray,argTypes:=ats},ty,pos,after,guard⟩:=by exact rfl)
    (hw:Region.wanted ⟨some d,.call {callee:=.value (.func f),args:=xs.toArray,argTypes:=ats},ty,pos,after,guard⟩ (bX ops σ)=true:=by kernel_rfl) (hv:xs.map (evF σ)=vals:=by exact rfl)
    (d9:eX ops lv (pd.map (·.1)) i=true:=by kernel_rfl) (oo:pd.filter (λp=> !((above ops i).contains p.1))=pd':=by exact pD)
    (h:jk P ops (upd σ d v) w' pd'/\FG P r n ops Q (lv.set i true) pd' (upd σ d v) w'):FG P r n ops Q lv pd σ w:=
  vW (C:=λu w''=>u=v/\w''=w') eH i pd' ho hw ⟨v,w',Gives.ext hc hv,rfl,rfl⟩ d9 oo λu w'' hu=>by
    obtain⟨rfl,rfl⟩:=hu;exact h
end
end Go.Mw
namespace Go.Proofs.YtkfpleidaoaonaaGreatDoor
open Go Go.Mw Go.Lib Go.Proofs.Tryz
set_option maxRecDepth 4000
attribute [local irreducible] FW FL FG FGn fZ gG cO gW Qfn Gives
def cellP (b o:Nat):Value:=.pointer (some ⟨b,o,none⟩)
section
variable {w:Wd} {F:NP} {b:Nat} {cv wv pv ov kv fv:Value} {g o1 o2 o3:Int}
theorem zG {E:Td} (hb:gU w b (lM cv wv pv g ov kv o1 o2 o3 fv) E):Rk prog 86 [cellP b 6] w (.bool (decide (o1≠0))):=by
 have H:=Sep.aJ w;refine dI func86 rfl rfl rfl rfl ?_;refine Zb4 ?_;refine Vv (Gives.ext (vals:=[cellP b 6]) (run_call_load (P:=prog) func134 kR kR kR .u32 kR (by rw[jD (hb.keep H.kept)];rfl))) ?_;refine Zb2 ?_;exact⟨rfl,H.kept⟩
theorem abb (hp:(blk b (lM cv wv pv g ov kv o1 0 o3 fv) 75).ok F w):aY prog 193 [cellP b 7] w λv w'=>v=.tuple #[]/\Turn F (blk b (lM cv wv pv g ov kv o1 1 o3 fv) 75) w w':=by
 have H:=Sep.bW hp;refine dI func193 rfl rfl rfl rfl ?_;refine Sr (Vv (Gives.ext (vals:=[]) (run_call_mark0 (P:=prog) func255 kR kR kR .disable kR _)) (Zb3 ?_));obtain⟨k,Ai⟩: ∃S,S=World.setCell w ⟨b,7,none⟩ (.int .i32 1):=⟨_,rfl⟩;have S:Mw.Sep w F [blk b (lM cv wv pv g ov kv o1 1 o3 fv) 75] k:=by rw[Ai];exact JO (o:=7) (v:=.int .i32 1) H At0 rfl
 refine dG (w':=k) (Gives.ext (vals:=[cellP b 7,.int .i32 0,.int .i32 1]) (by rw[Ai];exact run_call_cas_hit (P:=prog) func256 kR kR kR .i32 kR (by rw[jD (H.obj At0)];rfl) (yA (H.obj At0)))) rfl ?_;refine Qn (Cd rfl (λk=>?_) (λk=>?_))
 .refine dW (Cd rfl (λI=>?_) (λI=>?_))
  .refine Sr (Vv (Gives.ext (vals:=[]) (run_call_mark0 (P:=prog) func257 kR kR kR .enable kR _)) (Zb1 ?_))
   refine Vv (Gives.Y8 (a:=⟨b,7,none⟩) (run_convert_to_unsafe (P:=prog) (t:=68) kR kR kR (v:=.int .i32 1) (by rw[jD (S.obj At0)];rfl)) rfl) ?_;refine Vv (Gives.ext (vals:=[cellP b 7]) (run_call_marked (P:=prog) func258 kR kR kR .acquire kR ⟨b,7,none⟩ _)) (Zb0 ?_);exact⟨rfl,S.turn⟩
  refine Zb0 ?_;exact⟨rfl,S.turn⟩
 exact Bool.noConfusion k
theorem Uy (hp:(blk b (lM cv wv pv g ov kv o1 1 o3 fv) 75).ok F w):aY prog 194 [cellP b 7] w λv w'=>v=.tuple #[]/\Turn F (blk b (lM cv wv pv g ov kv o1 0 o3 fv) 75) w w':=by
 have H:=Sep.bW hp;refine dI func194 rfl rfl rfl rfl ?_;refine dW (Cd rfl (λk=>?_) (λk=>?_))
 .refine Zb3 ?_
  refine fq (H.obj At0) (h:=?_);refine Zb1 ?_;refine Vv (Gives.Y8 (a:=⟨b,7,none⟩) (run_convert_to_unsafe (P:=prog) (t:=68) kR kR kR (v:=.int .i32 1) (by rw[jD (H.obj At0)];rfl)) rfl) ?_;refine Vv (Gives.ext (vals:=[cellP b 7]) (run_call_marked (P:=prog) func260 kR kR kR .releaseMerge kR ⟨b,7,none⟩ _)) (Zb0 ?_);refine Vv (Gives.ext (vals:=[]) (run_call_mark0 (P:=prog) func255 kR kR kR .disable kR _)) (Zb3 ?_);obtain⟨k,Ai⟩: ∃S,S=World.setCell w ⟨b,7,none⟩ (.int .i32 0):=⟨_,rfl⟩;have I:Mw.Sep w F [blk b (lM cv wv pv g ov kv o1 0 o3 fv) 75] k:=by rw[Ai];exact JO (o:=7) (v:=.int .i32 0) H At0 rfl
  refine dG (w':=k) (Gives.ext (vals:=[cellP b 7,.int .i32 (-1)]) (by rw[Ai];exact run_call_add (P:=prog) func261 kR kR kR .i32 kR (x:=1) (by rw[jD (H.obj At0)];rfl) (yA (H.obj At0)) (by simp[go_sem];rfl))) rfl ?_;refine Za3 ?_;refine Qn (Cp rfl (λk=>?_) (λk=>?_))
  .exact zap rfl k
  refine Zb0 ?_;refine Vv (Gives.ext (vals:=[]) (run_call_mark0 (P:=prog) func257 kR kR kR .enable kR _)) (Zb0 ?_);exact⟨rfl,I.turn⟩
 refine Zb3 ?_;obtain⟨k,Ai⟩: ∃S,S=World.setCell w ⟨b,7,none⟩ (.int .i32 0):=⟨_,rfl⟩;have S:Mw.Sep w F [blk b (lM cv wv pv g ov kv o1 0 o3 fv) 75] k:=by rw[Ai];exact JO (o:=7) (v:=.int .i32 0) H At0 rfl
 refine dG (w':=k) (Gives.ext (vals:=[cellP b 7,.int .i32 (-1)]) (by rw[Ai];exact run_call_add (P:=prog) func261 kR kR kR .i32 kR (x:=1) (by rw[jD (H.obj At0)];rfl) (yA (H.obj At0)) (by simp[go_sem];rfl))) rfl ?_;refine Za3 ?_;refine Qn (Cp rfl (λk=>?_) (λk=>?_))
 .exact zap rfl k
 refine Zb0 ?_;refine Vv (Gives.ext (vals:=[]) (run_call_mark0 (P:=prog) func257 kR kR kR .enable kR _)) (Zb0 ?_);exact⟨rfl,S.turn⟩
theorem agY (hp:(blk b (lM cv wv pv g ov kv o1 0 o3 fv) 75).ok F w):aY prog 135 [cellP b 7] w λv w'=>v=.tuple #[]/\Turn F (blk b (lM cv wv pv g ov kv o1 1 o3 fv) 75) w w':=by
 have H:=Sep.bW hp;refine dI func135 rfl rfl rfl rfl ?_;refine Zb3 ?_;refine Ls H At0 (λF' hp _=>abb hp) (h:=λ_ k=>?_);refine Zb0 ?_;exact⟨rfl,k.turn⟩
theorem Xu (hp:(blk b (lM cv wv pv g ov kv o1 1 o3 fv) 75).ok F w):yO prog 136 [cellP b 7] w λ_ w'=>Turn F (blk b (lM cv wv pv g ov kv o1 0 o3 fv) 75) w w':=by
 have H:=Sep.bW hp;refine aji func136 rfl rfl rfl rfl ?_;refine Zb3 ?_;refine Ls H At0 (λF' hp _=>Uy hp) (h:=λ_ k=>?_);refine uT (GV (h:=?_));exact⟨[],rfl,k.turn⟩
theorem ajk:Rk prog 196 [.bool true] w (.int .u32 1):=by
 have H:=Sep.aJ w;refine dI func196 rfl rfl rfl rfl ?_;refine Za2 ?_;refine Qn (Cd rfl (λk=>?_) (λk=>?_))
 .refine Zb1 ?_
  exact⟨rfl,H.kept⟩
 exact Bool.noConfusion k
theorem abd (hp:(blk b (lM cv wv pv g ov kv o1 o2 o3 fv) 75).ok F w):yO prog 137 [cellP b 6,.bool true] w λ_ w'=>Turn F (blk b (lM cv wv pv g ov kv 1 o2 o3 fv) 75) w w':=by
 have H:=Sep.bW hp;refine ajj func137 rfl rfl rfl rfl ?_;refine Ds (λk _ S=>?_);refine Zb4 ?_;refine gI k 4 _ S ajk (h:=λS I _=>⟨sT,?_⟩);obtain⟨a,Ai⟩: ∃c,c=World.setCell S ⟨b,6,none⟩ (.int .u32 1):=⟨_,rfl⟩;have c:Mw.Sep w F [blk b (lM cv wv pv g ov kv 1 o2 o3 fv) 75] a:=by rw[Ai];exact JO (o:=6) (v:=.int .u32 1) I At0 rfl
 refine ald k 5 [] (w':=a) (vals:=[cellP b 6,.int .u32 1]) (by rw[Ai];exact run_call_store (P:=prog) func195 kR kR kR kR (u:=.int .u32 o1) (by rw[jD (I.obj At0)];rfl) (yA (I.obj At0))) (h:=⟨sT,?_⟩);refine fF k kR ?_;refine GV (h:=?_);exact⟨[],rfl,c.turn⟩
end
section
variable {w:Wd} {F:NP} {b:Nat} {z:GQ} {kv:Value} {cols outs:List bF} {p:aW}
theorem abe (hp:(star (blk b (qI z p.group kv 0 0 0 .nilFunc) 75) (gy λw=>jX w z cols p outs)).ok F w) (hn:p.cols.length<=100):
    aY prog 87 [cellP b 6,.func (.func 53) #[av b] #[]] w λ_ w'=>∃gv:Value,Turn F (star (blk b (qI z p.group kv 1 0 0 gv) 75) (gy λw=>jX w z cols p outs/\oH w b gv p)) w w':=by
  have H:=(Sep.bW hp).bR;unfold qI at H;refine ajh func87 rfl rfl rfl rfl ?_;refine Zb3 ?_;refine Ls H At0 (λF' hp _=>agY hp) (h:=λ_ k=>?_);refine Zb3 ?_;refine Ux (vals:=[cellP b 7]) (h:=?_);refine Zb3 ?_;refine aD k (zG (k.obj At0)) (h:=λ_ k _=>?_);refine Za1 ?_;refine Qn (Cp rfl (λS=>?_) (λS=>?_))
  . refine Zb3 ?_
    refine Ux (vals:=[cellP b 6,.bool true]) (h:=?_);refine Zb1 ?_;obtain⟨F0,vC,_,aI⟩:=(k.bD).focus At0;refine dP (fs:=[av b]) (cs:=[]) (vals:=[]) rfl (Xt (z:=z) (cols:=cols) (p:=p) (outs:=outs) vC hn) rfl rfl (λv' _ hv=>?_);obtain⟨gv,lY,F1,lG,k⟩:=hv;have I:=(aI _ F1 _ lY lG k).bR;refine uT (Uv (h:=?_));obtain⟨F0,vC,_,aI⟩:=I.focus At0;unfold qI at vC;refine⟨[],rfl,OE (yO.mono (abd vC) λv1 _ Pq=>?_)⟩;obtain⟨lY,F1,lG,k⟩:=Pq;obtain⟨F2,akd,_,af6⟩:=(aI _ F1 _ lY lG k).focus At0;refine OE (yO.mono (Xu akd) λv2 _ hv2=>?_);obtain⟨hk2,F3,pF,k⟩:=hv2;exact⟨gv,(af6 _ F3 _ hk2 pF k).bD.turn⟩
  exact zap S sM
theorem aem (hp:(star (blk b (qI z p.group kv 0 0 0 .nilFunc) 75) (gy λw=>jX w z cols p outs)).ok F w) (hn:p.cols.length<=100):
    aY prog 52 [cellP b 6,.func (.func 53) #[av b] #[]] w λ_ w'=>∃gv:Value,Turn F (star (blk b (qI z p.group kv 1 0 0 gv) 75) (gy λw=>jX w z cols p outs/\oH w b gv p)) w w':=by
  have H:=Sep.bW hp;refine dF func52 rfl rfl rfl rfl ?_;refine Zb3 ?_;refine aD H (zG (H.bR.obj At0)) (h:=λ_ k _=>?_);refine Za1 ?_;refine Qn (Cp rfl (λS=>?_) (λS=>?_))
  . refine Zb2 ?_
    obtain⟨F0,vC,_,aI⟩:=k.focus At0;refine aK (abe vC hn) rfl rfl (λv' _ hv=>?_);obtain⟨gv,lY,F1,lG,k⟩:=hv;have I:=aI _ F1 _ lY lG k;refine Zb0 ?_;exact⟨gv,I.turn⟩
  exact zap S sM
theorem agZ {E:Td} {fv f:Value} {o2 o3:Int} (hb:gU w b (qI z p.group kv 1 o2 o3 fv) E):aY prog 52 [cellP b 6,f] w λ_ w'=>Kept noB w w':=by
 have H:=Sep.aJ w;refine dF func52 rfl rfl rfl rfl ?_;refine Zb3 ?_;refine aD H (zG (hb.keep H.kept)) (h:=λ_ k _=>?_);refine Za1 ?_;refine Qn (Cp rfl (λS=>?_) (λS=>?_))
 .exact zap S sM
 refine Zb0 ?_;exact k.kept
theorem ajl {fv:Value} {o1:Int} (hp:(star (blk b (qI z p.group kv o1 0 0 fv) 75) (gy λw=>jX w z cols p outs/\((o1=0/\fv=.nilFunc)\/(o1=1/\oH w b fv p)))).ok F w) (hn:p.cols.length<=100):
    aY prog 52 [cellP b 6,.func (.func 53) #[av b] #[]] w λ_ w'=>∃gv:Value,Turn F (star (blk b (qI z p.group kv 1 0 0 gv) 75) (gy λw=>jX w z cols p outs/\oH w b gv p)) w w':=by
  have H:=(Sep.bW hp).bR
  rcases (Sep.sees H At1).2 with⟨rfl,rfl⟩ | ⟨rfl,_⟩
  . have k:=(Sep.pJ (Y:=λw=>jX w z cols p outs) H At1 λw h=>h.1).bD
    obtain⟨F0,vC,_,aI⟩:=k.focus At0;refine aY.mono (aem vC hn) λv w' hv=>?_;obtain⟨gv,lY,F1,lG,S⟩:=hv;exact⟨gv,(aI _ F1 _ lY lG S).turn⟩
  have k:=(Sep.pJ (Y:=λw=>jX w z cols p outs/\oH w b fv p) H At1 λw h=>⟨h.1,h.2.elim (λh=>zap h.1 dC) λh=>h.2⟩);exact aY.mono (agZ (z:=z) (p:=p) (kv:=kv) (k.obj At0)) λv w' hk=>⟨fv,(k.keep hk).bD.turn⟩
end
end Go.Proofs.YtkfpleidaoaonaaGreatDoor
namespace Go.Mw
open Go.RowKit
section
variable {P:Program} {r:Option Nat} {n:Nat} {ops:AO} {Q:Post} {rest:LO} {σ:St} {w:Wd} {ty:Td} {pos:String} {after:Array Edge}
def tJ (P:Program) (t:Td) (v:Value) (name:String) (f:FuncId) (u:Value):Prop:=∀w:Wd,(method (P.types.size+Made.depth) t v name).run P w=.ok (f,u) w
theorem Uz {d:Nat} {x:Od} {name:String} {t:Td} {v u:Value} {f:FuncId} {xs:List Od} {ats:Array Td} {vals:LV} {R:Value->Wd->Prop} [he:qb P f] (hx:evF σ x=.iface t v) (hm:tJ P t v name f u) (hc:aY P f (u::vals) w R)
    (hv:xs.map (evF σ)=vals) (hd:Nat.blt d n=true) (h: ∀v w',R v w'->FL P r n ops Q rest (upd σ d v) w'):
    FL P r n ops Q (⟨some d,.call {callee:=.invoke x name,args:=xs.toArray,argTypes:=ats},ty,pos,after,none⟩::rest) σ w:=λa ha=>
  wpListIn_plain rfl λK hK=>by
    refine⟨λ_ _=>trivial,?_⟩;rw[Oper.semAt_eq _ _ _ (λ_ h=>by cases h),ha.eval]
    have e:(execOp (evF σ) ⟨some d,.call {callee:=.invoke x name,args:=xs.toArray,argTypes:=ats},ty,pos,after,none⟩).run P w=.ok (.enter f (u::vals).toArray) w:=by
      have h1:=he.run (#[u]++vals.toArray) w;simp[execOp,resolve,invoke,callMethod,hx,hv,hm w];rw[show(u::vals).toArray= #[u]++vals.toArray from sM];simpa using h1
    rw[e,Oper.uponIn_enter];refine⟨(λh=>by cases h),ql r (Calls.mono hc λe w'' hr=>?_)⟩;cases e with
    | returned v=>exact hK _ _ (h v w'' hr _ (ha.put (zaw hd) v))
    | _=>exact hr.elim
theorem Gives.Xv {ρ:Od->Value} {x:Od} {T:Td} {b:Nat} (hu: ∀w:Wd,(Instr.makeInterface T (.pointer (some ⟨b,0,none⟩))).run P w=.ok (.iface T (.pointer (some ⟨b,0,none⟩))) w) (hx:ρ x=.pointer (some ⟨b,0,none⟩)):Gives P ρ (.makeInterface T x) ty w (.iface T (.pointer (some ⟨b,0,none⟩))) w:=λ_ _ _ _=>by
 simp[execOp,hx,hu w]
end
section
variable {P:Program} {r:Option Nat} {n:Nat} {ops:AO} {Q:Post} {σ:St} {w w0:Wd} {S:NP} {rs:List HP} {ty:Td} {pos:String} {after:Array Edge} {guard:Option (Nat×Bool)} {lv:List Bool} {pd:LNB}
theorem UA (eH:dJ n ops=true) (i:Nat) (pd':LNB) {d:Nat} {T:Td} {x:Od} {v:Value} {cs:LV} (H:Sep w0 S rs w)
    (hx:evF σ x=v) (hcs:v.cells=cs.toArray) (ho:ops[i]? =some ⟨some d,.box T x,ty,pos,after,guard⟩:=by exact rfl)
    (hw:Region.wanted ⟨some d,.box T x,ty,pos,after,guard⟩ (bX ops σ)=true:=by kernel_rfl)
    (d9:om ops lv (pd.map (·.1)) i=true:=by kernel_rfl) (oo:pd.filter (λp=> !((above ops i).contains p.1))=pd':=by exact pD)
    (h: ∀b w',Sep w0 S (blk b cs T::rs) w'->jk P ops (upd σ d (.pointer (some ⟨b,0,none⟩))) w' pd'/\FG P r n ops Q (lv.set i true) pd' (upd σ d (.pointer (some ⟨b,0,none⟩))) w'):pX P r n ops Q lv pd σ w i:=
  Ep (C:=λv w'=>∃b,v=.pointer (some ⟨b,0,none⟩)/\Sep w0 S (blk b cs T::rs) w') eH i pd' ho hw ⟨_,_,Gives.ala hx hcs,_,rfl,H.alloc _⟩ d9 oo (λv w' hv=>by obtain⟨b,rfl,hs⟩:=hv;exact h b w' hs)
end
end Go.Mw
namespace Go.Proofs.YtkfpleidaoaonaaGreatDoor
open Go Go.Mw Go.Lib Go.Proofs.Tryz
set_option maxRecDepth 4000
attribute [local irreducible] FW FL FG FGn fZ gG cO gW Qfn Gives
theorem qK {cols:List bF} {p:aW} (h:(dB cols p).2=0):1<=p.cols.length/\p.cols.length<=16/\ -1<=p.group/\p.group<=p.cols.length:=by
 cases hn:uW p with
 | true=>exact(sW hn).1
 | false=>unfold dB at h;rw[zac hn]at h;exact zap h dC
theorem Bb {T:Td} (hT: ∀(b:Nat) (w:Wd),(Instr.makeInterface T (.pointer (some ⟨b,0,none⟩))).run prog w=.ok (.iface T (.pointer (some ⟨b,0,none⟩))) w) {ρ:Od->Value} {ty:Td} {x:Od} {b:Nat} {w:Wd} (hx:ρ x=av b):Gives prog ρ (.makeInterface T x) ty w (.iface T (av b)) w:=
 Gives.Xv (hT b) hx
theorem zH (b:Nat) (w:Wd):(Instr.makeInterface 104 (.pointer (some ⟨b,0,none⟩))).run prog w=.ok (.iface 104 (.pointer (some ⟨b,0,none⟩))) w:=kR
theorem M0 (b:Nat) (w:Wd):(Instr.makeInterface 110 (.pointer (some ⟨b,0,none⟩))).run prog w=.ok (.iface 110 (.pointer (some ⟨b,0,none⟩))) w:=kR
section
variable {w w0:Wd} {S:NP} {rs:List HP}
theorem abf {g:Int} {n b E:Nat} {v:Value} (e:(n:Int)=g) (H:Mw.Sep w0 S (blk b [v,I g] E::rs) w):Mw.Sep w0 S (blk b [v,I (n:Int)] E::rs) w:=by rw[e];exact H
theorem xg {b:Nat} {z:GQ} {kv fv:Value} {o1:Int} {cols:List bF} {p:aW} {T:List aH} (H:Mw.Sep w0 S (blk b (qI z p.group kv o1 0 0 fv) 75::qJ kv p T::gy (λw=>jX w z cols p (dB cols p).1/\((o1=0/\fv=.nilFunc)\/(o1=1/\oH w b fv p)))::rs) w):Mw.Sep w0 S (qh b cols p T::rs) w:=
 Sep.uq (p:=λx:GQ×Value×Int×Value=>star (blk b (qI x.1 p.group x.2.1 x.2.2.1 0 0 x.2.2.2) 75) (star (qJ x.2.1 p T) (gy λw=>jX w x.1 cols p (dB cols p).1/\((x.2.2.1=0/\x.2.2.2=.nilFunc)\/(x.2.2.1=1/\oH w b x.2.2.2 p))))) (z,kv,o1,fv) (H.aU.aU.bD.aL.bD)
theorem K8 {b:Nat} {cols:List bF} {p:aW} {T:List aH} (H:Mw.Sep w0 S (qh b cols p T::rs) w): ∃(z:GQ) (kv fv:Value) (o1:Int),Mw.Sep w0 S (blk b (qI z p.group kv o1 0 0 fv) 75::qJ kv p T::gy (λw=>jX w z cols p (dB cols p).1/\((o1=0/\fv=.nilFunc)\/(o1=1/\oH w b fv p)))::rs) w:=by
 obtain⟨⟨z,kv,o1,fv⟩,k⟩:=Sep.ex0 H;exact⟨z,kv,fv,o1,k.bR.aL.bR.aU⟩
theorem u6 {b:Nat} {tv:Value} {p:aW} {T:List aH} (hg:p.group<0) (H:Mw.Sep w0 S (blk b [tv] 106::zu tv (cZ T).1::rs) w):Mw.Sep w0 S (qJ (.iface 104 (av b)) p T::rs) w:=by
 unfold qJ;rw[zac hg];exact Sep.uq (p:=λx:Nat×Value=>star (jo (Value.iface 104 (av b)=.iface 104 (av x.1))) (star (blk x.1 [x.2] 106) (zu x.2 (cZ T).1))) (b,tv) (Sep.bD (Sep.jS rfl H.bD))
theorem u7 {b bg bh:Nat} {p:aW} {T:List aH} (hg: ¬p.group<0) (H:Mw.Sep w0 S (blk b [av bg,I (p.group.toNat:Nat)] 112::star (blk bg (qd p.group.toNat (p.cols.length-p.group.toNat) bh) 150) (Ee bh (p.cols.length-p.group.toNat) (T.map (fM p.group.toNat)))::rs) w):Mw.Sep w0 S (qJ (.iface 110 (av b)) p T::rs) w:=by
 unfold qJ;rw[zab hg];exact Sep.uq (p:=λx:Nat×Nat×Nat=>star (jo (Value.iface 110 (av b)=.iface 110 (av x.1))) (star (blk x.1 [av x.2.1,I (p.group.toNat:Nat)] 112) (star (blk x.2.1 (qd p.group.toNat (p.cols.length-p.group.toNat) x.2.2) 150) (Ee x.2.2 (p.cols.length-p.group.toNat) (T.map (fM p.group.toNat)))))) (b,bg,bh) (Sep.bD (Sep.jS rfl H.bD))
end
section
variable {w:Wd}
theorem ag0 {cols:List bF} {p:aW} {vc vp:Value} (hc:aQ w vc aX 7 cols) (Pt:cols.length<=1000) (hp:ji w vp p) (Jk:bI p.wh) (Dr: ∀o∈p.cols,bI o.steps) (hn:p.cols.length<=100) (Ai:p.wh.length<=1000) (ZJ: ∀o∈p.cols,o.steps.length<=1000) (hT:gQ w):
    aY prog 19 [vc,vp] w λu w'=>((dB cols p).2≠0->u=.tuple #[.pointer none,I (dB cols p).2]/\Kept noB w w')/\((dB cols p).2=0->∃b:Nat,u=.tuple #[av b,I 0]/\Turn noB (qh b cols p []) w w'):=by
  have dS:=hp;obtain⟨vw,vq,rfl,hw,r,hr,iI⟩:=hp;obtain⟨W,cw,rfl,_,_⟩:=id hw;obtain⟨A,m,rfl,_,_⟩:=id hr;have BD:=iI.len;have H:=Sep.aJ w;refine dF func19 rfl rfl rfl rfl ?_;refine Sr (cB H (cs:=[.slice W p.wh.length cw,.slice A r.length m,I p.group]) rfl (h:=λb3 _ k _=>?_));refine Zb3 ?_;refine iB k (cs:=[.slice W p.wh.length cw,.slice A r.length m,I p.group]) (h:=?_);refine dn k (aaH (hc.keep k.kept) (dS.keep k.kept) Jk Dr oM (hT.keep k.kept)) (h:=λvo _ _ k _=>?_);obtain⟨O,co,rfl,_,_⟩:=Sep.dQ k At0;refine Za7 ?_;refine Qn (Cp rfl (λS=>?_) (λS=>?_))
  . have c:=S
    refine Zb3 ?_;exact⟨λ_=>⟨rfl,k.kept⟩,λh=>zap h c⟩
  have d9:(dB cols p).2=0:=Decidable.of_not_not S;have ZI:=qK d9;refine Sk (fB (λx:(OA×Nat)×(OA×Nat)×(OA×Nat)×List (L8×Value)×Nat×Nat=>[(3,av b3),(8,av x.2.2.2.2.2)]) (λx w'=>Mw.Sep w noB [blk x.2.2.2.2.2 (lM (.slice x.1.1 cols.length x.1.2) (.slice x.2.1.1 p.wh.length x.2.1.2) (.slice x.2.2.1.1 x.2.2.2.1.length x.2.2.1.2) p.group (.slice O (dB cols p).1.length co) (.iface 104 (av x.2.2.2.2.1)) 0 0 0 .nilFunc) 75,blk x.2.2.2.2.1 [.slice none 0 0] 106,(gy λw=>qy w (.slice x.2.1.1 p.wh.length x.2.1.2) (.slice x.2.2.1.1 x.2.2.2.1.length x.2.2.1.2) x.2.2.2.1 p),bJ 54 7 aX (.slice x.1.1 cols.length x.1.2) cols,bJ 54 7 aX (.slice O (dB cols p).1.length co) (dB cols p).1,blk b3 [.slice W p.wh.length cw,.slice A r.length m,I p.group] 26] w') ?_ ?_)
  . refine Ds (λc _ S=>?_)
    refine Zb1 ?_;refine pq c 2 S (h:=?_);refine Gm c 4 ?_;refine Gb c 5 [.slice none 0 0] ?_;refine mI c (e1:=1) (e2:=6) kR ?_ ?_
    . refine ng c 1 [(5,true),(4,true),(2,false)] S (DN (hc.keep S.kept) Pt) (h:=λy _ _ k _=>?_)
      obtain⟨Y,cy,rfl,_,_⟩:=Sep.dQ k At0;refine⟨sU,?_⟩;refine mI c (e1:=3) (e2:=6) kR ?_ ?_
      . refine ng c 3 _ k (Fy (dS.keep k.kept) hn Ai ZJ) (h:=λy _ _ d _=>?_)
        obtain⟨wv,pv,q⟩:=y;dsimp only at d ⊢;have hPA:qy _ wv pv q p:=Sep.sees d At0;obtain⟨WV,cwv,rfl,_,_⟩:=hPA.1;obtain⟨PV,cpv,rfl,_,_⟩:=hPA.2.1;refine⟨sT,?_⟩;refine Og c 6 _ d (cs:=[.slice none 0 0]) rfl rfl (h:=λbp _ d=>⟨sT,?_⟩);refine Gp c 7 rfl rfl (λ_=>(Bb zH rfl)) (Gp c 8 rfl rfl (λ_=>(Gives.build (out:=lM (.slice Y cols.length cy) (.slice WV p.wh.length cwv) (.slice PV q.length cpv) p.group (.slice O (dB cols p).1.length co) (.iface 104 (av bp)) 0 0 0 .nilFunc) (Fills.one rfl rfl rfl sM rfl (Fills.many rfl rfl (zaw rfl) rfl (Fills.one rfl rfl rfl (zaw rfl) rfl (Fills.one rfl rfl rfl (zaw rfl) rfl Fills.nil)))))) ?_);refine Og c 9 _ d (cs:=lM (.slice Y cols.length cy) (.slice WV p.wh.length cwv) (.slice PV q.length cpv) p.group (.slice O (dB cols p).1.length co) (.iface 104 (av bp)) 0 0 0 .nilFunc) rfl rfl (h:=λb _ d=>⟨sT,?_⟩);refine Zb1 ?_
        first
        | exact aA ((Y,cy),(WV,cwv),(PV,cpv),q,bp,b) tR d
        | exact aA ((Y,cy),(WV,cwv),(PV,cpv),q,bp,b) tR d.aU.bE.bE.bE
        | exact aA ((Y,cy),(WV,cwv),(PV,cpv),q,bp,b) tR d.bE.aU.bE.bE
        | exact aA ((Y,cy),(WV,cwv),(PV,cpv),q,bp,b) tR d.aU.aU.bE.bE
        | exact aA ((Y,cy),(WV,cwv),(PV,cpv),q,bp,b) tR d.aL.bE.bE.bE
        | exact aA ((Y,cy),(WV,cwv),(PV,cpv),q,bp,b) tR d.aL.aU.bE.bE
      refine UA c 6 [(4,true),(2,false)] k (cs:=[.slice none 0 0]) rfl rfl (h:=λbp _ d=>⟨sU,?_⟩);refine Gp c 7 rfl rfl (λ_=>(Bb zH rfl)) (fV c 3 _ d (Fy (dS.keep d.kept) hn Ai ZJ) (h:=λy _ _ d _=>?_));obtain⟨wv,pv,q⟩:=y;dsimp only at d ⊢;have hPA:qy _ wv pv q p:=Sep.sees d At0;obtain⟨WV,cwv,rfl,_,_⟩:=hPA.1;obtain⟨PV,cpv,rfl,_,_⟩:=hPA.2.1;refine⟨sT,?_⟩;refine Gp c 8 rfl rfl (λ_=>(Gives.build (out:=lM (.slice Y cols.length cy) (.slice WV p.wh.length cwv) (.slice PV q.length cpv) p.group (.slice O (dB cols p).1.length co) (.iface 104 (av bp)) 0 0 0 .nilFunc) (Fills.one rfl rfl rfl sM rfl (Fills.many rfl rfl (zaw rfl) rfl (Fills.one rfl rfl rfl (zaw rfl) rfl (Fills.one rfl rfl rfl (zaw rfl) rfl Fills.nil)))))) (Og c 9 _ d (cs:=lM (.slice Y cols.length cy) (.slice WV p.wh.length cwv) (.slice PV q.length cpv) p.group (.slice O (dB cols p).1.length co) (.iface 104 (av bp)) 0 0 0 .nilFunc) rfl rfl (h:=λb _ d=>⟨sT,?_⟩));refine Zb1 ?_
      first
      | exact aA ((Y,cy),(WV,cwv),(PV,cpv),q,bp,b) tR d
      | exact aA ((Y,cy),(WV,cwv),(PV,cpv),q,bp,b) tR d.aU.bE.bE.bE
      | exact aA ((Y,cy),(WV,cwv),(PV,cpv),q,bp,b) tR d.bE.aU.bE.bE
      | exact aA ((Y,cy),(WV,cwv),(PV,cpv),q,bp,b) tR d.aU.aU.bE.bE
      | exact aA ((Y,cy),(WV,cwv),(PV,cpv),q,bp,b) tR d.aL.bE.bE.bE
      | exact aA ((Y,cy),(WV,cwv),(PV,cpv),q,bp,b) tR d.aL.aU.bE.bE
    refine UA c 6 [(4,true),(2,false),(0,true)] S (cs:=[.slice none 0 0]) rfl rfl (h:=λbp _ d=>⟨sU,?_⟩);refine Gp c 7 rfl rfl (λ_=>(Bb zH rfl)) (fV c 1 [(7,true),(4,true),(2,false)] d (DN (hc.keep d.kept) Pt) (h:=λy _ _ d _=>?_));obtain⟨Y,cy,rfl,_,_⟩:=Sep.dQ d At0;refine⟨sU,?_⟩;refine fV c 3 _ d (Fy (dS.keep d.kept) hn Ai ZJ) (h:=λy _ _ d _=>?_);obtain⟨wv,pv,q⟩:=y;dsimp only at d ⊢;have hPA:qy _ wv pv q p:=Sep.sees d At0;obtain⟨WV,cwv,rfl,_,_⟩:=hPA.1;obtain⟨PV,cpv,rfl,_,_⟩:=hPA.2.1;refine⟨sT,?_⟩;refine Gp c 8 rfl rfl (λ_=>(Gives.build (out:=lM (.slice Y cols.length cy) (.slice WV p.wh.length cwv) (.slice PV q.length cpv) p.group (.slice O (dB cols p).1.length co) (.iface 104 (av bp)) 0 0 0 .nilFunc) (Fills.one rfl rfl rfl sM rfl (Fills.many rfl rfl (zaw rfl) rfl (Fills.one rfl rfl rfl (zaw rfl) rfl (Fills.one rfl rfl rfl (zaw rfl) rfl Fills.nil)))))) (Og c 9 _ d (cs:=lM (.slice Y cols.length cy) (.slice WV p.wh.length cwv) (.slice PV q.length cpv) p.group (.slice O (dB cols p).1.length co) (.iface 104 (av bp)) 0 0 0 .nilFunc) rfl rfl (h:=λb _ d=>⟨sT,?_⟩));refine Zb1 ?_
    first
    | exact aA ((Y,cy),(WV,cwv),(PV,cpv),q,bp,b) tR d
    | exact aA ((Y,cy),(WV,cwv),(PV,cpv),q,bp,b) tR d.aU.bE.bE.bE
    | exact aA ((Y,cy),(WV,cwv),(PV,cpv),q,bp,b) tR d.bE.aU.bE.bE
    | exact aA ((Y,cy),(WV,cwv),(PV,cpv),q,bp,b) tR d.aU.aU.bE.bE
    | exact aA ((Y,cy),(WV,cwv),(PV,cpv),q,bp,b) tR d.aL.bE.bE.bE
    | exact aA ((Y,cy),(WV,cwv),(PV,cpv),q,bp,b) tR d.aL.aU.bE.bE
  rintro⟨⟨Y,cy⟩,⟨WV,cwv⟩,⟨PV,cpv⟩,q,bp,b⟩ τ d d;dsimp only at d;have d:=gL d At3;have d:=gL d At4;have d:=Sep.qg (Z:=λw=>aQ w (.slice Y cols.length cy) aX 7 cols/\qy w (.slice WV p.wh.length cwv) (.slice PV q.length cpv) q p) d.aU.bE (λw a b=>⟨a,b⟩);have d:=Sep.qg (Z:=λw=>jX w ⟨.slice Y cols.length cy,.slice WV p.wh.length cwv,.slice PV q.length cpv,.slice O (dB cols p).1.length co,q⟩ cols p (dB cols p).1/\(((0:Int)=0/\Value.nilFunc=.nilFunc)\/((0:Int)=1/\oH w b .nilFunc p))) d.bE.ain (λw a b=>⟨⟨a.1,a.2,b⟩,.inl ⟨rfl,rfl⟩⟩);simp only[cK,like,aS,bK];refine Za3 ?_;refine Qn (Cp rfl (λc=>?_) (λc=>?_))
  . have hg: ¬p.group<0:=oM
    refine Zb7 ?_;refine Vc ((p.cols.length-p.group.toNat:Nat):Int) ?_;have hgn:(p.group.toNat:Int)=p.group:=zde oM;refine aK (aaT p.group ((p.cols.length-p.group.toNat:Nat):Int)) rfl rfl (λv' _ hv=>?_);obtain⟨⟨bg,bh⟩,rfl,lY,F1,lG,c⟩:=hv.2 ⟨oM,oM,oM,oM⟩;have S:=(d.new lY lG (λb hb=>(c b hb).resolve_left id)).bR;rw[zdo]at S;refine Za7 ?_;refine Qn (Cp rfl (λc=>?_) (λc=>?_))
    . exact zap rfl c
    refine Zb4 ?_;refine Vb [av bg,I p.group] ?_;refine cB S (cs:=[av bg,I p.group]) rfl (h:=λbk _ c _=>?_);refine dG (Bb M0 rfl) rfl ?_;refine Zb2 ?_;refine bB c (h:=λ_ c=>?_);refine Zb3 ?_;exact⟨λh=>zap d9 h,λ_=>⟨b,rfl,by
    have h1:=vX (L:=[]) (Sep.xU (X:=λw=>fQ w []) c.aU (λw s hs=>zap hs zao)) (aa0 (p.cols.length-p.group.toNat));have h2:=h1.aU.bD.aL;have h4:=u7 (T:=[]) hg (abf hgn h2);exact(xg (z:=⟨.slice Y cols.length cy,.slice WV p.wh.length cwv,.slice PV q.length cpv,.slice O (dB cols p).1.length co,q⟩) h4.aU).first.turn⟩⟩
  have hg:p.group<0:=oM;refine Zb3 ?_;exact⟨λh=>zap d9 h,λ_=>⟨b,rfl,by
  have h1:=u6 (T:=[]) hg ((Sep.xU (X:=λw=>eT w (.slice none 0 0) (cZ []).1) d.aU (λw=>⟨[],AA _ _ _,fK.nil⟩)).aL);exact(xg (z:=⟨.slice Y cols.length cy,.slice WV p.wh.length cwv,.slice PV q.length cpv,.slice O (dB cols p).1.length co,q⟩) h1.aU).first.turn⟩⟩
end
section
variable {w:Wd}
theorem Y9 {b1 bs b:Nat} {cs:LV} {E1 E E2:Td} {cv sv vr:Value} {cols:List bF} {l:List aZ} {r:List ay} (h1:gU w b1 [av b] E1) (hb:gU w b (cv::cs) E) (hs:gU w bs [sv] E2) (hc:aQ w cv aX 7 cols) (hl:aQ w sv aP 3 l) (hr:aQ w vr ah 3 r) (hf:jI r) (hx:bI l) (hT:gQ w):
    Rk prog 89 [vr,av b1,av bs] w (.tuple #[agg (ah (lN cols l r).1),I (lN cols l r).2]):=by
  have H:=Sep.aJ w;refine Q9 func89 rfl rfl rfl rfl ?_;refine Sr (aO H (h:=λb4 _ _ _=>?_));refine Zb1 ?_;refine Ds (λk _ S=>?_);refine G0 (Gt rfl (Gives.sJ rfl (h1.keep S.kept) rfl) ?_);refine Zb2 ?_;refine GS (Gt rfl (Gives.sJ rfl (hb.keep S.kept) rfl) ?_);refine GS (Gt rfl (Gives.sJ rfl (hs.keep S.kept) rfl) ?_);refine Zb1 ?_;refine gI k 6 _ S (afz (hc.keep S.kept) (hl.keep S.kept) (hr.keep S.kept) hf hx (hT.keep S.kept).utf) (h:=λ_ S _=>⟨sT,?_⟩);refine Zb2 ?_;refine dZ k 9 _ S (us:=ah (lN cols l r).1) (h:=λ_ S=>⟨sT,?_⟩);refine Za1 ?_;refine fF k kR ?_;refine bC (dX (aN (h:=?_)));exact⟨_,gK S,rfl,S.kept⟩
theorem aen (vr:Value):Rk prog 91 [vr] w (.tuple #[agg (ah ⟨false,1,[]⟩),I 0]):=by
 have H:=Sep.aJ w;refine tQ func91 rfl rfl rfl rfl ?_;refine Sr (aO H (h:=λb2 _ k _=>?_));refine Zb1 ?_;refine Vb (ah ⟨false,1,[]⟩) ?_;refine ak k (h:=λ_ k=>?_);refine Am ?_;refine Qn (dX (aN (h:=?_)));exact⟨_,gK k,rfl,k.kept⟩
theorem OG {b1 b:Nat} {cs:LV} {E1 E:Td} {cv vr pf:Value} {cols:List bF} {l:List aZ} {r:List ay} (hpf:lV w b1 pf l) (h1:gU w b1 [av b] E1) (hb:gU w b (cv::cs) E) (hc:aQ w cv aX 7 cols) (hr:aQ w vr ah 3 r) (hf:jI r) (hx:bI l) (hT:gQ w):
    ∃(f:FuncId) (us:LV),pf=.func (.func f) #[] us.toArray/\qb prog f/\Rk prog f ([]++[vr]++us) w (.tuple #[agg (ah (BS cols l r).1),I (BS cols l r).2]):=by
  unfold lV at hpf;unfold BS
  by_cases e:l=[]
  . rw[zac e]at hpf |-
    subst hpf;exact⟨_,[],rfl,inferInstance,aen vr⟩
  rw[zab e]at hpf ⊢;obtain⟨bs,sv,rfl,hs,hsv⟩:=hpf;exact⟨_,[av b1,av bs],rfl,inferInstance,Y9 h1 hb hs hc hsv hr hf hx hT⟩
theorem Xw {cols:List bF} {r:List ay} {l:List j4} {o:j4} (h:(fA cols r l).2=0):fA cols r (l++[o])=if(lN cols o.steps r).2≠0 then([],(lN cols o.steps r).2)else((fA cols r l).1++[(lN cols o.steps r).1],0):=by
 induction l with
 | nil=>
  show(if(lN cols o.steps r).2≠0 then([],(lN cols o.steps r).2)else if(0:Int)≠0 then([],0)else([(lN cols o.steps r).1],0))=_
  split
  .rfl
  rfl
 | cons x l ih=>
  rw[fA]at h;rw[zbx,fA,fA]
  split at h
  .rename_i h1;exact zap h h1
  rename_i h1;rw[zab h1,zab h1]
  split at h
  .rename_i h2;exact zap h h2
  rename_i h2;rw[zab h2,ih (Decidable.of_not_not h2)]
  split
  .rename_i h3;first | rfl | rw[zac h3]
  rename_i h3;rw[zab (λh=>h rfl)];rfl
theorem abg {cols:List bF} {r:List ay} {l m:List j4} (h:(fA cols r l).2≠0):fA cols r (l++m)=([],(fA cols r l).2):=by
 induction l with
 | nil=>exact zap rfl h
 | cons x l ih=>
  rw[fA]at h;rw[zbx,fA,fA]
  split at h
  .rename_i h1;rw[zac h1,zac h1]
  rename_i h1;rw[zab h1,zab h1]
  split at h
  .rename_i h2
   rw[zac h2,ih h2,zac h2]
  exact zap rfl h
theorem aeo {b b1 bp b4:Nat} {cs:LV} {E:Td} {cv vr pf gv:Value} {gl:LV} {cols:List bF} {p:aW} {r:List ay} {T1 T2 T3:Td} (h1:gU w b1 [av b] T1) (hbp:gU w bp [pf] T2) (hpf:lV w b1 pf p.wh) (hb4:gU w b4 [gv] T3) (hgv:aQ w gv K7 1 gl) (Rt:nM w b1 gl p.cols)
    (hb:gU w b (cv::cs) E) (hc:aQ w cv aX 7 cols) (hr:aQ w vr ah 3 r) (hf:jI r) (Jk:bI p.wh) (Dr: ∀o∈p.cols,bI o.steps) (hn:p.cols.length<=100) (hT:gQ w):
    aY prog 92 [vr,av b1,av bp,av b4] w λu w'=>∃x:Value,u=.tuple #[x,.bool (iG cols p r).2.1,I (iG cols p r).2.2]/\True/\Turn noB (bJ 52 3 ah x (iG cols p r).1) w w':=by
  have H:=Sep.aJ w;obtain⟨G,cG,rfl,⟨hcG,arW⟩,hG⟩:=hgv;have arX:=Rt.1;obtain⟨fp,us,rfl,Dn,_⟩:=OG hpf h1 hb hc hr hf Jk hT;refine y8 func92 rfl rfl rfl rfl ?_;refine Zb3 ?_;refine fq (h1.keep H.kept) (h:=?_);refine Zb2 ?_;refine fq (hb.keep H.kept) (h:=?_);refine Mv ?_;refine aD H (Eu (hc.keep H.kept) (hr.keep H.kept) hf (hT.keep H.kept).utf) (h:=λ_ k _=>?_);refine Za3 ?_;refine Qn (Cp rfl (λS=>?_) (λS=>?_))
  . have au:iG cols p r=([],false,dY cols r):=by unfold iG;rw[zac S]
    refine Zb4 ?_;exact⟨.slice none 0 0,by rw[au];rfl,trivial,by rw[au];exact(Sep.nE k 52 3 ah).turn⟩
  have hrc:=S;refine Zb0 ?_;refine fq (hbp.keep k.kept) (h:=?_);refine Mv ?_;obtain⟨fp2,us2,he2,ao8,p8⟩:=OG (b:=b) (cols:=cols) (lV.keep hpf k.kept) (h1.keep k.kept) (hb.keep k.kept) (hc.keep k.kept) (hr.keep k.kept) hf Jk (hT.keep k.kept);refine dP (he:=ao8) (fs:=[]) (cs:=us2) (vals:=[vr]) he2 p8 rfl rfl (λv' _ hv=>?_);obtain⟨rfl,bZ⟩:=hv;have S:=k.keep bZ;obtain⟨pc,xJ⟩: ∃pc,pc=BS cols p.wh r:=⟨_,rfl⟩;rw[<-xJ];refine Zb3 ?_;refine aO S (h:=λb9 _ S _=>?_);refine ak S (h:=λ_ S=>?_);refine Zb4 ?_;refine aF (t:=31) rfl (λk=>?_) (λk=>?_)
  . refine Zb7 ?_
    have au:iG cols p r=([],false,pc.2):=by
      unfold iG;rw[zab hrc,<-xJ,zac];exact .inl (by assumption)
    exact⟨.slice none 0 0,by rw[au];rfl,trivial,by rw[au];exact(Sep.nE S 52 3 ah).first.turn⟩
  refine Zb4 ?_;refine gu (t:=35) rfl (λk=>?_) (λk=>?_)
  . refine Zb5 ?_
    have au:iG cols p r=([],false,pc.2):=by
      unfold iG;rw[zab hrc,<-xJ,zac];exact .inr (.inl (by assumption))
    exact⟨.slice none 0 0,by rw[au];rfl,trivial,by rw[au];exact(Sep.nE S 52 3 ah).first.turn⟩
  refine Za4 ?_;refine Qn (Cp rfl (λk=>?_) (λk=>?_))
  . refine Zb4 ?_
    have au:iG cols p r=([],false,pc.2):=by
      unfold iG;rw[zab hrc,<-xJ,zac];exact .inr (.inr (by assumption))
    exact⟨.slice none 0 0,by rw[au];rfl,trivial,by rw[au];exact(Sep.nE S 52 3 ah).first.turn⟩
  refine Zb0 ?_;have aiI: ¬(pc.2≠0\/pc.1.null=true\/pc.1.n=0):=by simp_all
  refine fq (hb4.keep S.kept) (h:=?_);refine Zb2 ?_;refine aR (λx:(OA×Nat)×Nat=>[(0,vr),(5,.slice x.1.1 (fA cols r (p.cols.take x.2)).1.length x.1.2),(6,.bool false),(7,I pc.2),(41,.slice G gl.length cG),(42,I gl.length),(43,I x.2)]) (λx w'=>(x.2<=gl.length/\(fA cols r (p.cols.take x.2)).2=0/\(fA cols r (p.cols.take x.2)).1.length<=x.2)/\Mw.Sep w noB [bJ 52 3 ah (.slice x.1.1 (fA cols r (p.cols.take x.2)).1.length x.1.2) (fA cols r (p.cols.take x.2)).1] w') (λx _=>gl.length-x.2) ((none,0),0) tR ⟨⟨zaq _,rfl,zbk _⟩,(Sep.nE S 52 3 ah).first⟩ (λx τ _ hI=>?_);obtain⟨⟨X,cX⟩,i⟩:=x;obtain⟨⟨hi,k,Rq⟩,S⟩:=hI;dsimp only at hi k Rq S
  try simp only[cK,like,aS,bK]
  refine Za1 ?_;refine Qn (dW (Cp rfl (λa=>?_) (λa=>?_)))
  . have bH:i<gl.length:=oM
    obtain⟨g,hg⟩:=get_some bH;obtain⟨o,ho⟩:=get_some (l:=p.cols) (show i<p.cols.length from oM);obtain⟨bs,sv,rfl,hbs,hsv⟩:=Rt.2 i g o hg ho;have yY:p.cols.take (i+1)=p.cols.take i++[o]:=by rw[zbd,ho,zed]
    have hcs:=Xw (o:=o) k;rw[<-yY]at hcs;obtain⟨ev,hev⟩: ∃ev,ev=lN cols o.steps r:=⟨_,rfl⟩;rw[<-hev]at hcs;refine Zb0 ?_;refine Vv (Gives.jJ rfl rfl hG bH) (Vv (Gives.jc (f:=0) rfl (Sep.aJ _) (hG.keep S.kept) hg rfl) ?_);refine Zb3 ?_;refine dP (fs:=[]) (cs:=[av b1,av bs]) (vals:=[vr]) rfl (Y9 (b:=b) (cols:=cols) (l:=o.steps) (h1.keep S.kept) (hb.keep S.kept) (hbs.keep S.kept) (hc.keep S.kept) (hsv.keep S.kept) (hr.keep S.kept) hf (Dr o (zam ho)) (hT.keep S.kept)) rfl rfl (λv' _ hv=>?_);obtain⟨rfl,bZ⟩:=hv;have a:=S.keep bZ;rw[<-hev];refine Zb3 ?_;refine aO a (h:=λb12 _ a _=>?_);refine ak a (h:=λ_ a=>?_);refine Za3 ?_;refine Qn (Cp rfl (λc=>?_) (λc=>?_))
    . rw[zac c]at hcs
      have Po:(fA cols r (p.cols.take (i+1))).2≠0:=by rw[hcs];exact c
      have af7:=abg (m:=p.cols.drop (i+1)) Po;rw[zbs,hcs]at af7
      have au:iG cols p r=([],false,ev.2):=by
        unfold iG;rw[zab hrc,<-xJ,zab aiI,af7,zac c]
      refine Zb4 ?_;exact⟨.slice none 0 0,by rw[au];rfl,trivial,by rw[au];exact(Sep.nE a 52 3 ah).first.turn⟩
    rw[zab c]at hcs;refine Zb1 ?_;refine iB a (cs:=ah ev.1) (h:=?_);refine Bs a ([ev.1].flatMap ah) (λbq _ c _=>?_);refine gP c (news:=[ev.1]) At1 (by unfold maxLen;simp only[zah];omega) (by simp only[zah];omega) (cells_one (λ_=>rfl) _) (h:=?_);intro v59 c c;rw[show(fA cols r (p.cols.take i)).1++[ev.1]=(fA cols r (p.cols.take (i+1))).1 by rw[hcs]]at c;obtain⟨X2,cX2,rfl,_,_⟩:=Sep.dQ c At1;refine Zb1 ?_;refine Vc ((i+1:Nat):Int) ?_;refine Zb1 ?_;exact aj ((X2,cX2),i+1) tR ⟨⟨dO,by dsimp only;rw[hcs],by dsimp only;rw[hcs];dsimp only;rw[zad,zah];omega⟩,c.dA⟩ dO
  have oQ:p.cols.take i=p.cols:=zax oM;rw[oQ]at k S
  have au:iG cols p r=((fA cols r p.cols).1,true,0):=by
    unfold iG;rw[zab hrc,<-xJ,zab aiI,zab (λh=>h k)]
  refine Zb4 ?_;exact⟨_,by rw[au];rfl,trivial,by rw[au,oQ];exact S.turn⟩
end
theorem Xx {cols:List bF} {p:aW} {l:List aH} {x:aH} (h:(dD cols p l).2=0):
    dD cols p (l++[x])=if(iG cols p x.row).2.2≠0 then([],(iG cols p x.row).2.2)else((dD cols p l).1++(if(iG cols p x.row).2.1=true then [⟨(iG cols p x.row).1,x.w⟩]else []),0):=by
  induction l with
  | nil=>
    show(if(iG cols p x.row).2.2≠0 then([],(iG cols p x.row).2.2)else if(0:Int)≠0 then([],0)else if(iG cols p x.row).2.1=true then([⟨(iG cols p x.row).1,x.w⟩],0)else(([]:List aH),0))=_
    split
    . rfl
    rw[zab dC]
    split<;>rfl
  | cons y l ih=>
    rw[dD]at h;rw[zbx,dD,dD]
    split at h
    . rename_i h1;exact zap h h1
    rename_i h1;rw[zab h1,zab h1]
    split at h
    . rename_i h2;exact zap h h2
    rename_i h2;rw[zab h2,ih (Decidable.of_not_not h2)]
    split
    . rename_i h3;first | rfl | rw[zac h3]
    rename_i h3;rw[zab (λh=>h rfl)]
    split<;>split<;>rfl
theorem Xy {cols:List bF} {p:aW} {l m:List aH} (h:(dD cols p l).2≠0):dD cols p (l++m)=([],(dD cols p l).2):=by
 induction l with
 | nil=>exact zap rfl h
 | cons y l ih=>
  rw[dD]at h;rw[zbx,dD,dD]
  split at h
  .rename_i h1;rw[zac h1,zac h1]
  rename_i h1;rw[zab h1,zab h1]
  split at h
  .rename_i h2
   rw[zac h2,ih h2,zac h2]
  split at h<;>exact zap rfl h
structure nR (p:aW) (T:List aH):Prop where
 tell:(gB p.group p.cols.length T).2=0
 items: ∀o∈T,K6 p.cols.length o
 few:T.length<=100
theorem ag1 {n:Nat} {o:aH} (h:K6 n o):fO o.row:=λc hc=>by
 have:=h.2.2 c hc;unfold CY fits at this;exact⟨this.1,oM⟩
theorem UC (b:Nat):tJ prog 104 (av b) "millstream/view.put" 388 (av b):=λw=>kR
theorem UD (b:Nat):tJ prog 110 (av b) "millstream/view.put" 392 (av b):=λw=>kR
theorem QT (b:Nat):tJ prog 104 (av b) "millstream/view.rows" 389 (av b):=λw=>kR
theorem QU (b:Nat):tJ prog 110 (av b) "millstream/view.rows" 393 (av b):=λw=>kR
section
variable {w:Wd} {F:NP}
theorem K9 {w0:Wd} {S:NP} {rs:List HP} {kv:Value} {p:aW} {T:List aH} (H:Mw.Sep w0 S (qJ kv p T::rs) w): ∃t b,kv=.iface t (av b):=by
 unfold qJ at H
 split at H
 .obtain⟨x,k⟩:=Sep.ex0 H
  obtain⟨h,_⟩:=Sep.rO k.bR;exact⟨_,_,h⟩
 obtain⟨x,k⟩:=Sep.ex0 H;obtain⟨h,_⟩:=Sep.rO k.bR;exact⟨_,_,h⟩
theorem ag2 {kv v:Value} {p:aW} {T m:List aH} (hp:(qJ kv p T).ok F w) (hm:yx w F v m) (hT: ∀w1,Kept F w w1->gQ w1) (ZI:1<=p.cols.length/\p.cols.length<=16/\ -1<=p.group/\p.group<=p.cols.length) (hv:nR p T) (hmo: ∀o∈m,K6 p.cols.length o) (Bz:m.length<=100):
    ∃(t:Td) (b:Nat) (f:FuncId),kv=.iface t (av b)/\tJ prog t (av b) "millstream/view.put" f (av b)/\qb prog f/\aY prog f [av b,v] w λu w'=>∃x:Value×List Held,u=.tuple #[x.1,I (nQ p.group p.cols.length T m).2]/\x.2.map (·.2)=(nQ p.group p.cols.length T m).1/\Turn F (star (eU x.1 x.2) (qJ kv p (if(nQ p.group p.cols.length T m).2=0 then T++m else T))) w w':=by
  have H:=Sep.bW hp;unfold qJ at H
  by_cases hg:p.group<0
  . rw[zac hg]at H
    obtain⟨⟨b,tv⟩,k⟩:=Sep.ex0 H;obtain⟨rfl,S⟩:=Sep.rO k.bR;have hnT:(cZ T).2=0:=by have:=hv.tell;unfold gB at this;rw[zac hg]at this;exact this
    have BA:=ael (n:=p.cols.length) (m:=m) hg hnT;obtain⟨F0,vC,gH,aI⟩:=S.focus At0;have EA: ∀w1,Kept F0 w w1->Kept F w w1:=λw1 h1=>Mw.Kept.into (Kept.refl _ _) gH h1;refine⟨_,b,_,rfl,UC b,inferInstance,aY.mono (TN vC (λw1 h1=>hm.is w1 (EA w1 h1)) ?_ oM ?_ (λo ho=>(hmo o ho).1) ?_ (λo ho=>by rw[(hmo o ho).2.1];omega)) λu w' hu=>?_⟩
    . exact zcl (DY T) (by have:=hv.few;omega)
    . exact λo ho=>by have h:=zba ((vM (l:=T)).2.2 o ho);unfold fits;omega
    . exact λo ho=>by obtain⟨q,hq,e⟩:=Fb ho;rw[<-e,(hv.items q hq).2.1];omega
    obtain⟨⟨x,kv2⟩,rfl,hx,hk,F1,hq,hs⟩:=hu;rw[BA]at hx hq ⊢;dsimp only at hx hq ⊢;exact⟨x,rfl,hx,((u6 hg ((aI _ F1 _ hk hq hs).bR.aL.bR)).aL.bD).turn⟩
  rw[zab hg]at H;obtain⟨⟨b,bg,bh⟩,k⟩:=Sep.ex0 H;obtain⟨rfl,S⟩:=Sep.rO k.bR;obtain⟨F0,vC,gH,aI⟩:=S.focus At0;have EA: ∀w1,Kept F0 w w1->Kept F w w1:=λw1 h1=>Mw.Kept.into (Kept.refl _ _) gH h1;have hmg:=adI (m:=m) hg hv.tell;have BM:yR (p.cols.length-p.group.toNat) (T.map (fM p.group.toNat))=true:=((sS hg).1 hv.tell).2;have hm0:yx w F0 v m:=by obtain⟨r,hr⟩:=hm;exact⟨r,λw1 h1=>hr w1 (EA w1 h1)⟩
  refine⟨_,b,_,rfl,UD b,inferInstance,aY.mono (MX vC hm0 (λw1 h1=>hT w1 (EA w1 h1)) oM oM (λo ho=>⟨(hmo o ho).1,by rw[(hmo o ho).2.1];omega,ag1 (hmo o ho)⟩) Bz BM) λu w' hu=>?_⟩;obtain⟨x,rfl,hx,hk,F1,hq,hs⟩:=hu;rw[hmg];refine⟨x,rfl,hx,((u7 (b:=b) (bg:=bg) (bh:=bh) hg (T:=if(vQ p.group.toNat (p.cols.length-p.group.toNat) (T.map (fM p.group.toNat)) (m.map (fM p.group.toNat))).2=0 then T++m else T) ?_).aL.bD).turn⟩;have h1:=(aI _ F1 _ hk hq hs).bR.aL.bR
  have e:(if(vQ p.group.toNat (p.cols.length-p.group.toNat) (T.map (fM p.group.toNat)) (m.map (fM p.group.toNat))).2=0 then T++m else T).map (fM p.group.toNat)=if(vQ p.group.toNat (p.cols.length-p.group.toNat) (T.map (fM p.group.toNat)) (m.map (fM p.group.toNat))).2=0 then T.map (fM p.group.toNat)++m.map (fM p.group.toNat)else T.map (fM p.group.toNat):=by
    split
    . rw[zau]
    rfl
  rw[e];exact h1
theorem aep {kv:Value} {p:aW} {T:List aH} (hp:(qJ kv p T).ok F w) (ZI:1<=p.cols.length/\p.cols.length<=16/\ -1<=p.group/\p.group<=p.cols.length) (hv:nR p T):
    ∃(t:Td) (b:Nat) (f:FuncId),kv=.iface t (av b)/\tJ prog t (av b) "millstream/view.rows" f (av b)/\qb prog f/\aY prog f [av b] w λu w'=>∃x:Value×List Held,u=x.1/\x.2.map (·.2)=(gB p.group p.cols.length T).1/\Turn F (star (eU x.1 x.2) (qJ kv p T)) w w':=by
  have H:=Sep.bW hp;unfold qJ at H
  by_cases hg:p.group<0
  . rw[zac hg]at H
    obtain⟨⟨b,tv⟩,k⟩:=Sep.ex0 H;obtain⟨rfl,S⟩:=Sep.rO k.bR;have e:gB p.group p.cols.length T=cZ T:=by unfold gB;rw[zac hg]
    obtain⟨F0,vC,gH,aI⟩:=S.focus At0;refine⟨_,b,_,rfl,QT b,inferInstance,aY.mono (QJ vC ?_ ?_) λu w' hu=>?_⟩
    . exact zcl (DY T) (by have:=hv.few;omega)
    . exact λo ho=>by obtain⟨q,hq,e⟩:=Fb ho;rw[<-e,(hv.items q hq).2.1];omega
    obtain⟨x,rfl,hx,hk,F1,hq,hs⟩:=hu;rw[e];exact⟨x,rfl,hx,((u6 hg ((aI _ F1 _ hk hq hs).bR.aL.bR)).aL.bD).turn⟩
  rw[zab hg]at H;obtain⟨⟨b,bg,bh⟩,k⟩:=Sep.ex0 H;obtain⟨rfl,S⟩:=Sep.rO k.bR;obtain⟨F0,vC,gH,aI⟩:=S.focus At0;refine⟨_,b,_,rfl,QU b,inferInstance,aY.mono (K4 vC (by rw[zaf];have:=hv.few;omega) (Gx ((sS hg).1 hv.tell).1) oM) λu w' hu=>?_⟩;obtain⟨x,rfl,hx,hk,F1,hq,hs⟩:=hu;rw[uY hg hv.tell];exact⟨x,rfl,hx,((u7 hg ((aI _ F1 _ hk hq hs).bR.aL.bR)).aL.bD).turn⟩
theorem UE {b:Nat} {cols:List bF} {p:aW} {T:List aH} (hp:(qh b cols p T).ok F w) (d9:(dB cols p).2=0) (hv:nR p T):
    aY prog 27 [av b] w λu w'=>∃x:Value×List Held,u=x.1/\x.2.map (·.2)=(gB p.group p.cols.length T).1/\Turn F (star (eU x.1 x.2) (qh b cols p T)) w w':=by
  obtain⟨z,kv,fv,o1,H⟩:=K8 (Sep.bW hp);obtain⟨t0,b0,rfl⟩:=K9 H.aL;refine dI func27 rfl rfl rfl rfl ?_;refine Zb2 ?_;refine aD H (Us (H.obj At0) (.inr ⟨rfl,t0,_,rfl⟩)) (h:=λ_ k _=>?_);refine Qn (Cd rfl (λS=>?_) (λS=>?_))
  . exact Bool.noConfusion S
  refine Zb3 ?_;refine fq (k.obj At0) (h:=?_);obtain⟨F0,vC,gH,aI⟩:=k.focus At1;obtain⟨t,bk,f,hkv,JV,Dn,p8⟩:=aep vC (qK d9) hv;refine Uz (he:=Dn) (vals:=[]) hkv JV p8 rfl rfl (λv' _ Ms=>?_);obtain⟨x,rfl,hx,lY,F1,lG,S⟩:=Ms;have k:=aI _ F1 _ lY lG S;refine Zb1 ?_;exact⟨x,rfl,hx,((xg (k.aL.bR.bE.aU.bE)).aL.bD).turn⟩
theorem OH {b:Nat} {cols:List bF} {p:aW} {T l:List aH} {v:Value} (hp:(qh b cols p T).ok F w) (hl:yx w F v l) (hT: ∀w1,Kept F w w1->gQ w1) (d9:(dB cols p).2=0) (Jk:bI p.wh) (Dr: ∀o∈p.cols,bI o.steps) (hv:nR p T) (Jw: ∀x∈l,eG x) (hln:l.length<=100):
    aY prog 24 [av b,v] w λu w'=>∃x:Value×List Held,u=.tuple #[x.1,I (fP cols p T l).2]/\x.2.map (·.2)=(fP cols p T l).1/\Turn F (star (eU x.1 x.2) (qh b cols p (fH cols p T l))) w w':=by
  obtain⟨z,kv,fv,o1,H⟩:=K8 (Sep.bW hp);obtain⟨t0,b0,apa⟩:=K9 H.aL;have ZI:=qK d9;obtain⟨r,hrr⟩:=hl;obtain⟨⟨A,c,rfl,⟨hc,hc'⟩,_⟩,VR⟩:=hrr w (Kept.refl _ _);have BD:=VR.len;refine dF func24 rfl rfl rfl rfl ?_;refine Zb3 ?_;refine aD H (Us (H.obj At0) (.inr ⟨rfl,t0,_,apa⟩)) (h:=λ_ k _=>?_);refine Qn (Cd rfl (λS=>?_) (λS=>?_))
  . exact Bool.noConfusion S
  refine Zb4 ?_;refine Vv (Gives.makeFunc (us:=[av b]) (vs:=[]) rfl rfl) ?_;obtain⟨F0,vC,gH,aI⟩:=((k.aL).aU.aU.bD).focus At0;refine aK (ajl vC oM) rfl rfl (λv' _ Ms=>?_);obtain⟨gv,lY,F1,lG,S⟩:=Ms;have k:=(aI _ F1 _ lY lG S).bR;obtain⟨b1,bp,b4,rfl,_⟩:=(Sep.sees k At1).2;have k:=Sep.pJ (Y:=λw=>jX w z cols p (dB cols p).1/\QS w b b1 bp b4 p) k At1 (λw h=>⟨h.1,aa9 h.2⟩);refine Zb4 ?_;refine aR (λx:(OA×Nat)×List Held×Nat=>[(0,av b),(6,.slice x.1.1 (eu x.2.1).length x.1.2),(20,.slice A r.length c),(21,I r.length),(22,I x.2.2)]) (λx w'=>(x.2.2<=r.length/\(dD cols p (l.take x.2.2)).2=0/\x.2.1.map (·.2)=(dD cols p (l.take x.2.2)).1)/\Mw.Sep w F [bJ 82 2 aG (.slice x.1.1 (eu x.2.1).length x.1.2) (eu x.2.1),GH x.2.1,blk b (qI z p.group kv 1 0 0 (GR b1 bp b4)) 75,(gy λw=>jX w z cols p (dB cols p).1/\QS w b b1 bp b4 p),qJ kv p T] w') (λx _=>r.length-x.2.2) ((none,0),[],0) tR ⟨⟨zaq _,rfl,rfl⟩,Sep.jM (dN k) 82 2⟩ (λx τ _ hI=>?_);obtain⟨⟨X,cX⟩,LM,i⟩:=x;obtain⟨⟨hi,hi0,hLM⟩,k⟩:=hI;dsimp only at hi hi0 hLM k
  have ar2:LM.length<=i:=by
    have h1:=zbb List.length hLM;rw[zaf]at h1;have h2:=sw (cols:=cols) (p:=p) (l.take i);rw[zaj]at h2;omega
  have hLr:(eu LM).length=LM.length:=zaf _
  try simp only[cK,like,aS,bK]
  refine Za1 ?_;refine Qn (dW (Cp rfl (λa=>?_) (λa=>?_)))
  . have bH:i<r.length:=oM
    obtain⟨o,ho⟩:=get_some (l:=l) (show i<l.length from oM);have hof:=Jw o (zam ho);obtain⟨vo,Ry,VZ⟩:=VR.get ho
    have ahV: ∀w1,Kept F w w1->aQ w1 vo ah 3 o.row:=λw1 h1=>by
      obtain⟨vo2,RB,akb⟩:=(hrr w1 h1).2.get ho;rw[Ry]at RB;injection RB with RB
      injection RB with e1 e2
      rw[e1];exact akb
    obtain⟨V,cv,rfl,_,_⟩:=VZ;have yY:l.take (i+1)=l.take i++[o]:=by rw[zbd,ho,zed]
    have V3:=Xx (x:=o) hi0;rw[<-yY]at V3;obtain⟨md,hmd⟩: ∃md,md=iG cols p o.row:=⟨_,rfl⟩;rw[<-hmd]at V3;refine Zb0 ?_;refine Vv (Gives.jJ rfl rfl (bL (hrr _ k.kept).1) bH) (Vv (Gives.iL rfl (Sep.aJ _) (bL (hrr _ k.kept).1) Ry) ?_);refine aO k (h:=λb8 _ a _=>?_);refine ak a (h:=λ_ _=>?_);refine Zb0 ?_;refine Ds (λa _ d=>?_);refine Zb6 ?_;obtain⟨pf,gw,gl,g1,⟨gbp,gpf⟩,⟨gb4,ggv⟩,ggl⟩:=(Sep.sees d At4).2;refine jH a 6 _ (y:=.tmp 30) (fs:=[]) (cs:=[av b1,av bp,av b4]) (vals:=[.slice V o.row.length cv]) rfl (aeo (cols:=cols) (p:=p) (r:=o.row) (b:=b) (E:=75) g1 gbp gpf gb4 ggv ggl (d.obj At3) (Sep.sees d At4).1.1 (ahV _ d.kept) hof.2 Jk Dr oM (hT _ d.kept)) (h:=λv' _ Ms=>?_);obtain⟨xv,rfl,_,lY,F1,lG,S⟩:=Ms;have a:=d.new lY lG (λb hb=>(S b hb).resolve_left id);rw[<-hmd]at a ⊢;obtain⟨XR,cR,rfl,_,_⟩:=Sep.dQ a At0;refine⟨sT,?_⟩;refine Za9 ?_;refine Qn (Cp rfl (λd=>?_) (λd=>?_))
    . rw[zac d]at V3
      have rM:(dD cols p (l.take (i+1))).2≠0:=by rw[V3];exact d
      have fU:=Xy (m:=l.drop (i+1)) rM;rw[zbs,V3]at fU;have hap:fP cols p T l=([],md.2.2):=by unfold fP;rw[fU,zac d]
      have BN:fH cols p T l=T:=by unfold fH;rw[hap,zab d]
      refine Zb3 ?_;exact⟨(.slice none 0 0,[]),by rw[hap];rfl,by rw[hap];rfl,by
      rw[BN];have h1:=Sep.pJ (Y:=λw=>jX w z cols p (dB cols p).1/\(((1:Int)=0/\GR b1 bp b4=.nilFunc)\/((1:Int)=1/\oH w b (GR b1 bp b4) p))) a At5 (λw h=>⟨h.1,.inr ⟨rfl,_,_,_,rfl,h.2⟩⟩);exact(Sep.jM (dN (xg (h1.jK.jL.jL)).first) 82 2).bD.bD.turn⟩
    rw[zab d]at V3;refine Za1 ?_;refine Qn (Cd rfl (λd=>?_) (λd=>?_))
    . rw[zac d]at V3
      refine Zb4 ?_;refine Vb (aG (.slice XR md.1.length cR,o.w)) ?_;refine Bs a ([(Value.slice XR md.1.length cR,o.w)].flatMap aG) (λbq _ e _=>?_);refine gP e (news:=[(Value.slice XR md.1.length cR,o.w)]) At2 (by unfold maxLen;simp only[zah];omega) (by simp only[zah];omega) (λu hu=>zbf.1 (show([(Value.slice XR md.1.length cR,o.w)].flatMap aG).all Value.oneCell'=true from rfl) u hu) (h:=?_);intro v47 e e;obtain⟨X2,cX2,rfl,_,_⟩:=Sep.dQ e At2
      have ZH:eu LM++[(Value.slice XR md.1.length cR,o.w)]=eu (LM++[(Value.slice XR md.1.length cR,⟨md.1,o.w⟩)]):=by
        unfold eu;rw[zau];rfl
      refine Zb1 ?_;refine Vc ((i+1:Nat):Int) ?_;refine Zb1 ?_;have h1:=(jV (x:=.slice XR md.1.length cR) (o:=⟨md.1,o.w⟩) (e.aL.dA.aU.aL)).aL;rw[ZH]at h1;exact aj ((X2,cX2),LM++[(.slice XR md.1.length cR,⟨md.1,o.w⟩)],i+1) ⟨rfl,by rw[<-ZH];rfl,rfl,rfl,rfl,trivial⟩ ⟨⟨dO,by dsimp only;rw[V3],by dsimp only;rw[V3,zau,hLM];rfl⟩,h1⟩ dO
    rw[zab (by rw[d];decide),zci]at V3;refine Zb0 ?_;refine Vc ((i+1:Nat):Int) ?_;refine Zb1 ?_;exact aj ((X,cX),LM,i+1) tR ⟨⟨dO,by dsimp only;rw[V3],by dsimp only;rw[V3];exact hLM⟩,a.dA.dA⟩ dO
  have oQ:l.take i=l:=zax oM;rw[oQ]at hi0 hLM;have hap:fP cols p T l=nQ p.group p.cols.length T (dD cols p l).1:=by unfold fP;rw[zab (λh=>h hi0)]
  refine Zb3 ?_;refine fq (k.obj At2) (h:=?_);refine Mv ?_;have hmo: ∀o∈(dD cols p l).1,K6 p.cols.length o:=A9 Dr Jw;have Bz:(dD cols p l).1.length<=100:=zcl (sw l) hln;have e:=k.bD;obtain⟨F0,vC,gH,hQ0,aI⟩:=Sep.KT e At2;have EA: ∀w1,Kept F0 _ w1->Kept F w w1:=λw1 h1=>Mw.Kept.into e.kept gH h1
  obtain⟨t,bk,f,hkv,JV,Dn,p8⟩:=ag2 (v:=.slice X (eu LM).length cX) (m:=(dD cols p l).1) vC ⟨eu LM,λw1 h1=>by
    obtain⟨Fq,F1,F2,_,_,g1,g2⟩:=hQ0 w1 h1;refine⟨nL g1,?_⟩;have:=zw g2;rw[hLM]at this;exact this⟩ (λw1 h1=>hT w1 (EA w1 h1)) ZI hv hmo Bz
  refine Uz (he:=Dn) (vals:=[.slice X (eu LM).length cX]) hkv JV p8 rfl rfl (λv' _ Ms=>?_);obtain⟨x,rfl,hx,lY,F1,lG,S⟩:=Ms;have e:=aI _ F1 _ lY lG S;rw[<-hap]at hx e ⊢;refine Zb4 ?_;have h1:=Sep.pJ (Y:=λw=>jX w z cols p (dB cols p).1/\(((1:Int)=0/\GR b1 bp b4=.nilFunc)\/((1:Int)=1/\oH w b (GR b1 bp b4) p))) e At2 (λw h=>⟨h.1,.inr ⟨rfl,_,_,_,rfl,h.2⟩⟩);exact⟨x,rfl,hx,((xg (h1.dA.aU.bR.bE.aU.bE)).aL.bD).turn⟩
end
theorem holds_nil (p:aW):nR p []:=⟨by rw[adl],λo ho=>zap ho zao,zaq _⟩
theorem nN {cols:List bF} {p:aW} {T l:List aH} (hv:nR p T) (Dr: ∀o∈p.cols,bI o.steps) (Jw: ∀x∈l,eG x) (hn:T.length+l.length<=100):nR p (fH cols p T l):=by
 refine⟨GD hv.tell,λo ho=>?_,?_⟩
 .unfold fH at ho
  split at ho
  .rcases zbi.1 ho with ho | ho
   .exact hv.items o ho
   exact A9 Dr Jw o ho
  exact hv.items o ho
 unfold fH
 split
 .rw[zad]
  have:=sw (cols:=cols) (p:=p) l;omega
 omega
section
variable {w:Wd}
theorem UF {cols:List bF} {p:aW} {vc vp:Value} (hc:aQ w vc aX 7 cols) (Pt:cols.length<=1000) (hp:ji w vp p) (Jk:bI p.wh) (Dr: ∀o∈p.cols,bI o.steps) (hn:p.cols.length<=100) (Ai:p.wh.length<=1000) (ZJ: ∀o∈p.cols,o.steps.length<=1000) (hT:gQ w):
    aY Tryz.prog 19 [vc,vp] w λu w'=>∃pv:Value,u=.tuple #[pv,I (dB cols p).2]/\Kept noB w w'/\((dB cols p).2≠0->pv=.pointer none)/\((dB cols p).2=0->∃b:Nat,pv=av b/\Turn noB (qh b cols p []) w w'):=
  aY.mono (ag0 hc Pt hp Jk Dr hn Ai ZJ hT) λu w' h=>by
    by_cases e:(dB cols p).2=0
    . obtain⟨b,rfl,ht⟩:=h.2 e
      exact⟨av b,by rw[e],ht.1,λh=>zap e h,λ_=>⟨b,rfl,ht⟩⟩
    obtain⟨rfl,hk⟩:=h.1 e;exact⟨.pointer none,rfl,hk,λ_=>rfl,λh=>zap h e⟩
theorem oI {cols:List bF} {p:aW} {l:List aH} {vc vp v:Value} (hc:aQ w vc aX 7 cols) (Pt:cols.length<=1000) (hp:ji w vp p) (hl:eT w v l) (Jk:bI p.wh) (Dr: ∀o∈p.cols,bI o.steps) (hn:p.cols.length<=100) (Ai:p.wh.length<=1000) (ZJ: ∀o∈p.cols,o.steps.length<=1000) (Jw: ∀x∈l,eG x) (hln:l.length<=100) (hT:gQ w):
    aY Tryz.prog 13 [vc,vp,v] w λu w'=>∃x:Value×List Held,u=.tuple #[x.1,I (iq cols p l).2]/\x.2.map (·.2)=(iq cols p l).1/\Turn noB (eU x.1 x.2) w w':=by
  have dS:=hp;obtain⟨vw,vq,rfl,hw,r,hr,iI⟩:=hp;obtain⟨W,cw,rfl,_,_⟩:=id hw;obtain⟨A,m,rfl,_,_⟩:=id hr;obtain⟨q,hq,hqr⟩:=hl;have H:=Sep.aJ w;refine y7 Tryz.func13 rfl rfl rfl rfl ?_;refine Sr (cB H (cs:=[.slice W p.wh.length cw,.slice A r.length m,I p.group]) rfl (h:=λb4 _ k _=>?_));refine Zb3 ?_;refine iB k (cs:=[.slice W p.wh.length cw,.slice A r.length m,I p.group]) (h:=?_);refine aK (UF (hc.keep k.kept) Pt (dS.keep k.kept) Jk Dr hn Ai ZJ (hT.keep k.kept)) rfl rfl (λv' S hv=>?_);obtain⟨pv,rfl,bZ,_,hb⟩:=hv
  have apb:(dB cols p).2=0->∃b:Nat,pv=av b/\Mw.Sep w noB (qh b cols p []::_) S:=λh=>by
    obtain⟨b,rfl,lY,F1,lG,S⟩:=hb h;exact⟨b,rfl,k.new lY lG (λb hb=>(S b hb).resolve_left id)⟩
  have a:=k.keep bZ;refine Za7 ?_;refine Qn (Cp rfl (λk=>?_) (λk=>?_))
  . have c:=k
    have hd:iq cols p l=([],(dB cols p).2):=by unfold iq;rw[zac c]
    refine Zb3 ?_;exact⟨(.slice none 0 0,[]),by rw[hd];rfl,by rw[hd];rfl,(Sep.jM (dN a) 82 2).bD.first.turn⟩
  have d9:(dB cols p).2=0:=Decidable.of_not_not k;obtain⟨b,rfl,c⟩:=apb d9;refine Zb2 ?_;obtain⟨F0,vC,gH,aI⟩:=c.focus At0;have EA: ∀k,Kept F0 _ k->Kept noB w k:=λk h1=>Mw.Kept.into c.kept gH h1;refine aK (OH vC ⟨q,λk h1=>⟨hq.keep (EA k h1),hqr.keep (EA k h1)⟩⟩ (λk h1=>hT.keep (EA k h1)) d9 Jk Dr (holds_nil p) Jw hln) rfl rfl (λv' _ hv=>?_);obtain⟨x,rfl,hx,lY,F1,lG,S⟩:=hv;have k:=aI _ F1 _ lY lG S;refine Za7 ?_;refine Qn (Cp rfl (λS=>?_) (λS=>?_))
  . have c:=S
    have hd:iq cols p l=([],(fP cols p [] l).2):=by unfold iq;rw[zab (λh=>h d9),zac c]
    refine Zb3 ?_;exact⟨(.slice none 0 0,[]),by rw[hd];rfl,by rw[hd];rfl,(Sep.jM (dN k) 82 2).bD.first.turn⟩
  have ha0:(fP cols p [] l).2=0:=Decidable.of_not_not S;have hd:iq cols p l=((gB p.group p.cols.length (fH cols p [] l)).1,0):=by unfold iq;rw[zab (λh=>h d9),zab (λh=>h ha0)]
  refine Zb1 ?_;have c:=k.bR;obtain⟨F2,akd,hS2,af6⟩:=c.focus At1;refine aK (UE akd d9 (nN (holds_nil p) Dr Jw (by simpa using hln))) rfl rfl (λv' _ hv=>?_);obtain⟨y,rfl,hy,hk2,F3,pF,k⟩:=hv;have c:=af6 _ F3 _ hk2 pF k;refine Zb2 ?_;exact⟨y,by rw[hd];rfl,by rw[hd];exact hy,c.aL.bR.first.turn⟩
end
section
variable {w:Wd}
end
section
variable {w:Wd}
end
theorem aer {sums:Nat} {E:List bQ}: ∀x∈mZ sums E,x.w=1:=λx hx=>by
 unfold mZ at hx;obtain⟨k,_,rfl⟩:=zat.1 hx;rfl
theorem aes {keys sums:Nat} {E:List bQ} (h: ∀x∈E,x.key.length=keys): ∀x∈mZ sums E,x.row.length=keys+(sums+1):=λx hx=>by
 unfold mZ at hx;obtain⟨k,hk,rfl⟩:=zat.1 hx;obtain⟨y,hy,rfl⟩:=oV.1 (zbw.1 hk).1;unfold aai;dsimp only;rw[zad,zaf,zdn,h y hy]
theorem OI: ∀E:List bQ,(qG E).length<=E.length
 | []=>zbk _
 | x::E=>by
  have h1:=OI E;have h2:=KI x.key (qG E);rw[qG,zal];omega
theorem aeu {sums:Nat} {E:List bQ}:(mZ sums E).length<=E.length:=by
 unfold mZ;rw[zaf];exact zcl (zep _ _) (OI E)
structure am9 where
 cv:Value
 wv:Value
 pv:Value
 ov:Value
 iv:Value
 rI:List (Value×Int)
section
variable {w w0:Wd} {S:NP} {rs:List HP} {b:Nat} {cols:List bF} {p:aW} {J:List aH}
end
end Go.Proofs.YtkfpleidaoaonaaGreatDoor
