/-
 Rules whose defaults do the plain steps of a walk:operations that give a value by themselves,and the ways between them.
-/
import Derived.Test.YtjcgliljofbopaaGreatDoorNv4
import Derived.ProofKit
import Derived.Deep.Fields
set_option linter.all false
namespace Go.Proofs.Mw
open Go.RowKit Go.ChangeShapes Go.WideShapes Go.Deep
open Go.ChangeMaps (setBlock)
/-! Goals told by their kind. -/
variable {P:Program} {ρ:Od->Value} {ty:Td} {w w':Wd} {v:Value} {x y u:Od}
variable {T:Td}
def aqc {o:BinOp} {U:Td} (h:Gives P ρ (.binOp o T x y U) ty w v w'):Gives P ρ (.binOp o T x y U) ty w v w':=h
def aqd {U:Td} (h:Gives P ρ (.binOp .eql T x y U) ty w v w'):Gives P ρ (.binOp .eql T x y U) ty w v w':=h
def aqe {U:Td} (h:Gives P ρ (.binOp .neq T x y U) ty w v w'):Gives P ρ (.binOp .neq T x y U) ty w v w':=h
variable {s:Nat}
def amb {f:Nat} (h:Gives P ρ (.fieldAddr s x f) ty w v w'):Gives P ρ (.fieldAddr s x f) ty w v w':=h
def an5 {b:Builtin} {xs:Array Od} {ts:Array Td} (h:Gives P ρ (.call {callee:=.builtin b,args:=xs,argTypes:=ts}) ty w v w'):Gives P ρ (.call {callee:=.builtin b,args:=xs,argTypes:=ts}) ty w v w':=h
variable {t:Td}
def an6 {s:Td} (h:Gives P ρ (.convert s t x) ty w v w'):Gives P ρ (.convert s t x) ty w v w':=h
def amc {a b c:Option Od} (h:Gives P ρ (.slice t x a b c) ty w v w'):Gives P ρ (.slice t x a b c) ty w v w':=h
def an7 (h:Gives P ρ (.indexAddr t x y) ty w v w'):Gives P ρ (.indexAddr t x y) ty w v w':=h
def iUn {o:UnOp} (h:Gives P ρ (.unOp o T x) ty w v w'):Gives P ρ (.unOp o T x) ty w v w':=h
def an8 (h:Gives P ρ (.pick u x y) ty w v w'):Gives P ρ (.pick u x y) ty w v w':=h
variable {p:Prop}
def gq (h:p:=by first
 | exact Gives.nilCheck rfl
 | (apply amb;first | exact Gives.xL rfl | exact Gives.UC rfl (by assumption) oM | exact Gives.field rfl | exact Gives.ahd rfl)
 | exact Gives.extract rfl rfl
 | (apply aqc;first
  | (apply aqd;first | exact Gives.eql rfl rfl | exact Gives.ap6 rfl rfl | exact Gives.apR rfl rfl | exact Gives.alq rfl rfl | exact Gives.ajH rfl rfl | exact Gives.ahe rfl rfl)
  | (apply aqe;first | exact Gives.neq rfl rfl | exact Gives.ap7 rfl rfl | exact Gives.apS rfl rfl | exact Gives.alr rfl rfl)
  | exact Gives.lss rfl rfl
  | exact Gives.leq rfl rfl
  | exact Gives.gtr rfl rfl
  | exact Gives.geq rfl rfl
  | exact Gives.RQ rfl rfl rfl oM
  | exact Gives.alo rfl rfl rfl oM
  | exact Gives.alp rfl rfl rfl oM
  | exact Gives.ap8 rfl rfl
  | exact Gives.XG rfl rfl (by first | omega | (simp;done) | (simp;omega))
  | exact Gives.add rfl rfl
  | exact Gives.sub rfl rfl
  | exact Gives.mul rfl rfl
  | exact Gives.and rfl rfl
  | exact Gives.or rfl rfl
  | exact Gives.xor rfl rfl
  | exact Gives.shl rfl rfl oM
  | exact Gives.shr rfl rfl oM
  | exact Gives.rem rfl rfl oM
  | exact Gives.quo rfl rfl oM)
 | (apply an5;first | exact Gives.ap5 rfl | exact Gives.agt rfl | exact Gives.min rfl rfl | exact Gives.max rfl rfl)
 | (apply an7;first | exact Gives.fF rfl rfl (by assumption) oM | exact Gives.jV rfl rfl oM | exact Gives.Br rfl rfl oM | exact Gives.apY rfl rfl (by assumption) (by first | exact At0 | exact At1) (by exact sz) oM)
 | (apply an8;first | exact Gives.anA rfl rfl | exact Gives.akA rfl rfl | exact Gives.pick rfl rfl rfl)
 | (apply iUn;first | exact Gives.notP rfl | exact Gives.not rfl | exact Gives.neg rfl)
 | (apply an6;first | exact Gives.aog rfl | exact Gives.aj2 rfl oM | exact Gives.Ux rfl oM | exact Gives.ahF rfl oM | exact Gives.ahh rfl | exact Gives.conv rfl)
 | exact Gives.yT rfl rfl oM
 | (apply amc;first | exact Gives.sliceTo rfl rfl oM | exact Gives.sliceFrom rfl rfl oM | exact Gives.sw rfl rfl oM | exact Gives.pW rfl rfl oM | exact Gives.adG rfl rfl rfl oM oM | exact Gives.Eu rfl rfl rfl oM oM | exact Gives.agu rfl)
 | exact Gives.XH rfl rfl
 | exact Gives.ahi rfl rfl
 | exact Gives.ajK rfl rfl oM rfl
 | exact Gives.makeFunc rfl rfl
 | fail):p:=h
variable {r:Option Nat} {n d:Nat} {ops:AO} {Q:Post} {rest:LO} {σ:St} {pos:String} {after:Array Edge} {guard:Option (Nat×Bool)} {lv:List Bool} {pd:LNB} {op:Op}
def Vq (h:FL P r n ops Q rest (upd σ d v) w) (hg:Gives P (evF σ) op ty w v w:=by exact gq) (hd:Nat.blt d n=true:=by exact rfl):FL P r n ops Q (⟨some d,op,ty,pos,after,none⟩::rest) σ w:=dw hg hd h
/-! Regions that draw,the operations one behind the other. -/
def sT {l:LNB} (h:l.all (λp=>p.2)=true:=by kernel_rfl):jm P ops σ w l:=by
 induction l with
 | nil=>trivial
 | cons p l ih=>
  obtain⟨i,b⟩:=p;simp only[List.all_cons,zbq]at h;obtain⟨rfl,h⟩:=h;exact ih h
def FGn (P:Program) (r:Option Nat) (n:Nat) (ops:AO) (Q:Post) (i:Nat) (lv:List Bool) (pd:LNB) (σ:St) (w:Wd):Prop:=lF ops lv (pd.map (·.1)) i=true->FG P r n ops Q lv pd σ w
def G0 {k:Nat} (h:FGn P r n ops Q 0 (List.replicate k false) pd σ w) (dX:lF ops (List.replicate k false) (pd.map (·.1)) 0=true:=by decide+kernel):FG P r n ops Q (List.replicate k false) pd σ w:=h dX
variable {j:Nat}
def GS (h:FGn P r n ops Q (j+1) (lv.set j true) pd σ w) (dX:lF ops (lv.set j true) (pd.map (·.1)) (j+1)=true:=by decide+kernel):FG P r n ops Q (lv.set j true) pd σ w:=h dX
variable {i:Nat}
def Gn {v:Value} (ho:ops[i]? =some ⟨some d,op,ty,pos,after,guard⟩) (hg: ∀w,Gives P (evF σ) op ty w v w) (h:FG P r n ops Q (lv.set i true) ((i,true)::pd) (upd σ d v) w) (eZ:dS n ops=true:=by assumption)
    (hw:Region.wanted ⟨some d,op,ty,pos,after,guard⟩ (bU ops σ)=true:=by exact rfl):FGn P r n ops Q i lv pd σ w:=λdX=>FGp eZ i ho hw hg dX h
def Gt {v:Value} (ho:ops[i]? =some ⟨some d,op,ty,pos,after,guard⟩) (hg:Gives P (evF σ) op ty w v w) (h:FG P r n ops Q (lv.set i true) ((i,false)::pd) (upd σ d v) w) (eZ:dS n ops=true:=by assumption)
    (hw:Region.wanted ⟨some d,op,ty,pos,after,guard⟩ (bU ops σ)=true:=by exact rfl):FGn P r n ops Q i lv pd σ w:=λdX=>FGl eZ i ho hw hg dX h
variable {w0:Wd} {S:NP} {rs:List HP}
def Gu {put:HP->List HP} {b o:Nat} [OneCell P T] {cs:LV} {E:Td} (ho:ops[i]? =some ⟨some d,.load T x,ty,pos,after,guard⟩) (H:Sep w0 S rs w) (h:FG P r n ops Q (lv.set i true) ((i,false)::pd) (upd σ d v) w) (eZ:dS n ops=true:=by assumption)
    (hw:Region.wanted ⟨some d,.load T x,ty,pos,after,guard⟩ (bU ops σ)=true:=by exact rfl) (hx:evF σ x=.pointer (some ⟨b,o,none⟩):=by exact rfl)
    (hat:At rs (blk b cs E) put:=by exact aT) (hv:cs[o]? =some v:=by exact rfl):FGn P r n ops Q i lv pd σ w:=λdX=>FGl eZ i ho hw (Gives.mW hx (H.obj hat) hv) dX h
def Gw {put:HP->List HP} {b k:Nat} [Agg P T k] {cs:LV} {E:Td} (ho:ops[i]? =some ⟨some d,.load T x,ty,pos,after,guard⟩) (H:Sep w0 S rs w) (h:FG P r n ops Q (lv.set i true) ((i,false)::pd) (upd σ d (.agg cs.toArray)) w) (eZ:dS n ops=true:=by assumption)
    (hw:Region.wanted ⟨some d,.load T x,ty,pos,after,guard⟩ (bU ops σ)=true:=by exact rfl) (hx:evF σ x=.pointer (some ⟨b,0,none⟩):=by exact rfl)
    (hat:At rs (blk b cs E) put:=by exact aT) (hk:cs.length=k:=by exact rfl):FGn P r n ops Q i lv pd σ w:=λdX=>FGl eZ i ho hw (Gives.JV (us:=cs) hx (H.obj hat) (by rw[zdd,<-hk,zbr]) hk) dX h
def Gv (ho:ops[i]? =some ⟨some d,op,ty,pos,after,guard⟩) (eZ:dS n ops=true) (h:FG P r n ops Q (lv.set i true) ((i,true)::pd) (upd σ d v) w)
    (hg: ∀w,Gives P (evF σ) op ty w v w:=by intro w_;first | exact Gives.move (by exact eV) | exact Gives.assign rfl | exact gq | fail)
    (hw:Region.wanted ⟨some d,op,ty,pos,after,guard⟩ (bU ops σ)=true:=by exact rfl):FGn P r n ops Q i lv pd σ w:=λdX=>FGp eZ i ho hw hg dX h
def Go' (ho:ops[i]? =some ⟨some d,op,ty,pos,after,guard⟩) (eZ:dS n ops=true) (h:FG P r n ops Q (lv.set i true) ((i,true)::pd) (upd σ d undef) w)
    (hw:Region.wanted ⟨some d,op,ty,pos,after,guard⟩ (bU ops σ)=false:=by exact rfl):FGn P r n ops Q i lv pd σ w:=λdX=>QG eZ i ho hw dX h
def Vc (c:Int) (h:FL P r n ops Q rest (upd σ d (.int .i64 c)) w) (hg:Gives P (evF σ) op ty w (.int .i64 c) w:=by first | exact Gives.RQ rfl rfl oM oM | exact Gives.alo rfl rfl oM oM | exact Gives.alp rfl rfl oM oM) (hd:Nat.blt d n=true:=by exact rfl):FL P r n ops Q (⟨some d,op,ty,pos,after,none⟩::rest) σ w:=dw hg hd h
def Gc (eZ:dS n ops=true) (i:Nat) (c:Int) (h:FG P r n ops Q (lv.set i true) ((i,true)::pd) (upd σ d (.int .i64 c)) w) (ho:ops[i]? =some ⟨some d,op,ty,pos,after,guard⟩:=by exact rfl) (hw:Region.wanted ⟨some d,op,ty,pos,after,guard⟩ (bU ops σ)=true:=by exact rfl)
    (hg: ∀w,Gives P (evF σ) op ty w (.int .i64 c) w:=by intro w_;first | exact Gives.RQ rfl rfl oM oM | exact Gives.alo rfl rfl oM oM | exact Gives.alp rfl rfl oM oM) (dX:lF ops lv (pd.map (·.1)) i=true:=by kernel_rfl):FG P r n ops Q lv pd σ w:=FGp eZ i ho hw hg dX h
def Vb (us:LV) (h:FL P r n ops Q rest (upd σ d (.agg us.toArray)) w) (hg:Gives P (evF σ) op ty w (.agg us.toArray) w:=by refine Gives.build ?_;repeat (first | exact Fills.nil | refine Fills.one rfl rfl rfl sM rfl ?_ | refine Fills.many rfl rfl sM rfl ?_)) (hd:Nat.blt d n=true:=by exact rfl):FL P r n ops Q (⟨some d,op,ty,pos,after,none⟩::rest) σ w:=dw hg hd h
def Gb (eZ:dS n ops=true) (i:Nat) (us:LV) (h:FG P r n ops Q (lv.set i true) ((i,true)::pd) (upd σ d (.agg us.toArray)) w) (ho:ops[i]? =some ⟨some d,op,ty,pos,after,guard⟩:=by exact rfl) (hw:Region.wanted ⟨some d,op,ty,pos,after,guard⟩ (bU ops σ)=true:=by exact rfl)
    (hg: ∀w,Gives P (evF σ) op ty w (.agg us.toArray) w:=by intro w_;refine Gives.build ?_;repeat (first | exact Fills.nil | refine Fills.one rfl rfl rfl sM rfl ?_ | refine Fills.many rfl rfl sM rfl ?_)) (dX:lF ops lv (pd.map (·.1)) i=true:=by kernel_rfl):FG P r n ops Q lv pd σ w:=FGp eZ i ho hw hg dX h
def Bs {t e k:Nat} {parts:List (Nat×Od)} {size bytes:Nat} [hs:cO P t e] [hc:Cells P e size bytes] {z:Value} [hz:Zero P e z] (H:Sep w0 S rs w) (out:LV)
    (h: ∀b w',Sep w0 S (blk b out e::rs) w'->Kept noB w w'->FL P r n ops Q rest (upd σ d (.slice (some ⟨b,0,none⟩) k k)) w') (hk:(parts.map (·.2)).length=k:=by exact rfl)
    (hE:dZ (evF σ) size (parts.map (·.2)) out:=by repeat (first | exact dZ.nil | refine dZ.one rfl rfl ?_ | refine dZ.many rfl rfl ?_)) (hp:parts=((parts.map (·.2)).zipIdx 0).map λp=>(p.2,p.1):=by exact rfl) (hl:Nat.ble (k*size) 16777216=true:=by exact rfl) (hd:Nat.blt d n=true:=by exact rfl):
    FL P r n ops Q (⟨some d,.buildSlice t k parts.toArray,ty,pos,after,none⟩::rest) σ w:=by
  subst hk;exact nD H hE hp hl hd h
def Gz {t e k:Nat} {parts:List (Nat×Od)} {size bytes:Nat} [hs:cO P t e] [hc:Cells P e size bytes] {z:Value} [hz:Zero P e z] (eZ:dS n ops=true) (i:Nat) (pd':LNB) (H:Sep w0 S rs w) (out:LV)
    (ho:ops[i]? =some ⟨some d,.buildSlice t k parts.toArray,ty,pos,after,guard⟩:=by exact rfl) (hk:(parts.map (·.2)).length=k:=by exact rfl)
    (hw:Region.wanted ⟨some d,.buildSlice t k parts.toArray,ty,pos,after,guard⟩ (bU ops σ)=true:=by kernel_rfl) (hE:dZ (evF σ) size (parts.map (·.2)) out:=by repeat (first | exact dZ.nil | refine dZ.one rfl rfl ?_ | refine dZ.many rfl rfl ?_)) (hp:parts=((parts.map (·.2)).zipIdx 0).map λp=>(p.2,p.1):=by exact rfl) (hl:Nat.ble (k*size) 16777216=true:=by exact rfl)
    (dX:fu ops lv (pd.map (·.1)) i=true:=by kernel_rfl) (oo:pd.filter (λp=> !((above ops i).contains p.1))=pd':=by exact pD)
    (h: ∀b w',Sep w0 S (blk b out e::rs) w'->jm P ops (upd σ d (.slice (some ⟨b,0,none⟩) k k)) w' pd'/\FG P r n ops Q (lv.set i true) pd' (upd σ d (.slice (some ⟨b,0,none⟩) k k)) w'):FG P r n ops Q lv pd σ w:=by
  subst hk;exact Ug eZ i pd' H hE ho hw hp hl dX oo h
def sL (h:p:=by repeat (first | exact eu | refine av ?_ | refine iI (by assumption) (h:=?_))):p:=h
/-! Goals of a walk told by their heads. -/
variable {l:LO} {dst:Option Nat} {g:Nat×Bool} {c:Code} {z:Od} {T:Td}
def iFW (h:FW P r n c Q σ w):FW P r n c Q σ w:=h
def iFL (h:FL P r n ops Q l σ w):FL P r n ops Q l σ w:=h
def iFG (h:FG P r n ops Q lv pd σ w):FG P r n ops Q lv pd σ w:=h
def iMv (h:FL P r n ops Q (⟨some d,.move x,ty,pos,after,none⟩::rest) σ w):FL P r n ops Q (⟨some d,.move x,ty,pos,after,none⟩::rest) σ w:=h
def iAm (h:FL P r n ops Q (⟨some d,.assign x,ty,pos,after,none⟩::rest) σ w):FL P r n ops Q (⟨some d,.assign x,ty,pos,after,none⟩::rest) σ w:=h
def iLd (h:FL P r n ops Q (⟨some d,.load T x,ty,pos,after,none⟩::rest) σ w):FL P r n ops Q (⟨some d,.load T x,ty,pos,after,none⟩::rest) σ w:=h
def aqf (h:FL P r n ops Q (⟨some d,op,ty,pos,after,none⟩::rest) σ w):FL P r n ops Q (⟨some d,op,ty,pos,after,none⟩::rest) σ w:=h
def iGd (h:FL P r n ops Q (⟨dst,op,ty,pos,after,some g⟩::rest) σ w):FL P r n ops Q (⟨dst,op,ty,pos,after,some g⟩::rest) σ w:=h
variable {c':Code}
def iCo (h:FW P r n (.cond x c c') Q σ w):FW P r n (.cond x c c') Q σ w:=h
def tb (h:p:=by first | with_reducible rfl | (simp only[Bool.not_true,Bool.not_false];done) | fail):p:=h
variable {b:Bool}
def On' {b':Bool} {t:Nat} (hj:(ops[j]?).bind (λo:Oper=>o.dst)=some t) (hb:σ t=.bool b') (h:FL P r n ops Q (⟨dst,op,ty,pos,after,none⟩::rest) σ w) (hbb:b'=b:=by exact tb):FL P r n ops Q (⟨dst,op,ty,pos,after,some (j,b)⟩::rest) σ w:=akz hj (by rw[hb,hbb]) h
def Of' {b':Bool} {t:Nat} (hj:(ops[j]?).bind (λo:Oper=>o.dst)=some t) (hb:σ t=.bool b') (h:FL P r n ops Q rest (rP σ dst undef) w) (hbb:(!b')=b:=by exact tb) (hd:PI n dst=true:=by exact rfl):FL P r n ops Q (⟨dst,op,ty,pos,after,some (j,b)⟩::rest) σ w:=aln hj (by rw[hb,<-hbb,Bool.not_not]) hd h
def Ct {t:Bool} (hv:evF σ x=.bool t) (h:FW P r n c Q σ w) (ht:t=true:=by exact tb):FW P r n (.cond x c c') Q σ w:=dQ (by rw[hv,ht]) h
def Cf {t:Bool} (hv:evF σ x=.bool t) (h:FW P r n c' Q σ w) (ht:t=false:=by exact tb):FW P r n (.cond x c c') Q σ w:=Dx (by rw[hv,ht]) h
variable {q:Prop}
def aB (hc:p) (h:p->q:=by intro c;first | exact zar rfl c | exact(c trivial).elim | exact zar c dC | exact zar c sM | omega | fail):q:=h hc
structure Bx (q:Prop):Prop where
 g:q
def Xs (hq:q) (h:Bx q->p:=by
 intro h
 first
 | (apply iFL;first
  | (apply iMv;refine Mv ?_)
  | (apply iAm;refine Am ?_)
  | (apply iLd;first
   | refine Ld (by assumption) ?_
   | refine fE (by assumption) (h:=?_)
   | refine dw (Gives.dz rfl (by assumption) (by assumption) (by assumption) rfl) rfl ?_
   | refine dw (Gives.ahN rfl (by assumption) (by assumption) (by assumption) rfl) rfl ?_
   | refine dw (Gives.iH rfl (by assumption) (by assumption) (by assumption)) rfl ?_)
  | (apply aqf;refine Vq ?_))
 | (apply iFG;(first | refine GS ?_ | refine G0 ?_);(first | refine Gv rfl (by assumption) ?_ | refine Gu rfl (by assumption) ?_ | refine Gw rfl (by assumption) ?_ | refine Gt rfl (Gives.dz rfl (by assumption) (by assumption) (by assumption) rfl) ?_ | refine Gt rfl (Gives.ahN rfl (by assumption) (by assumption) (by assumption) rfl) ?_ | refine Gt rfl (Gives.iH rfl (by assumption) (by assumption) (by assumption)) ?_ | refine Gt rfl (Gives.anX rfl (by assumption) (by first | exact At0 | exact At1) (by exact sz) oM) ?_))
 exact h.g):p:=h ⟨hq⟩
def Xg (hq:q) (h:Bx q->p:=by
 intro h
 repeat (first
 | (apply iFL;first
  | refine xK ?_
  | (apply iGd;first | refine On' rfl rfl ?_ | refine Of' rfl rfl ?_ | refine ajG rfl rfl rfl ?_))
 | (apply iFW;first
  | refine AL ?_
  | refine GA ?_
  | refine uz ?_
  | refine aaX ?_
  | (apply iCo;first | refine Ct rfl ?_ | refine Cf rfl ?_)
  | refine LY ?_
  | refine aaY ?_
  | refine FW_scope ?_)
 | (apply iFG;first
  | refine fK (by assumption) (by decide+kernel) ?_
  | ((first | refine GS ?_ | refine G0 ?_);refine Go' rfl (by assumption) ?_))
 | refine iX ?_
 | refine vU ?_
 | refine ER ?_
 | refine PK ?_
 | refine uy ?_
 | refine PL ?_
 | refine RO rfl ?_
 | refine YE ?_
 | refine JU ?_
 | refine afg ?_
 | refine acp ?_
 | refine ahs (h:=?_)
 | refine XL (h:=?_)
 | refine aiJ (hR:=?_)
 | refine YF (hR:=?_)
 | refine Qscope_normal ?_
 | refine Qscope_ret ?_)
 exact h.g):p:=h ⟨hq⟩
def Lp (hq:q) (h:Bx q->p:=by intro h;(try simp only[U3,like,alk,alm]);exact h.g):p:=h ⟨hq⟩
def Za1 (hq:q) (h:Bx q->p:=by intro h;(iterate 1 (first | refine Xs ?_ | (refine Xg ?_;refine Xs ?_)));exact h.g):p:=h ⟨hq⟩
def Zb1 {p q:Prop} (hq:q) (h:Bx q->p:=by intro h;(iterate 1 (first | refine Xs ?_ | (refine Xg ?_;refine Xs ?_)));refine Xg ?_;exact h.g):p:=h ⟨hq⟩
def Za2 (hq:q) (h:Bx q->p:=by intro h;(iterate 2 (first | refine Xs ?_ | (refine Xg ?_;refine Xs ?_)));exact h.g):p:=h ⟨hq⟩
def Zb2 {p q:Prop} (hq:q) (h:Bx q->p:=by intro h;(iterate 2 (first | refine Xs ?_ | (refine Xg ?_;refine Xs ?_)));refine Xg ?_;exact h.g):p:=h ⟨hq⟩
def Za3 (hq:q) (h:Bx q->p:=by intro h;(iterate 3 (first | refine Xs ?_ | (refine Xg ?_;refine Xs ?_)));exact h.g):p:=h ⟨hq⟩
def Zb3 {p q:Prop} (hq:q) (h:Bx q->p:=by intro h;(iterate 3 (first | refine Xs ?_ | (refine Xg ?_;refine Xs ?_)));refine Xg ?_;exact h.g):p:=h ⟨hq⟩
def Za4 (hq:q) (h:Bx q->p:=by intro h;(iterate 4 (first | refine Xs ?_ | (refine Xg ?_;refine Xs ?_)));exact h.g):p:=h ⟨hq⟩
def Zb4 (hq:q) (h:Bx q->p:=by intro h;(iterate 4 (first | refine Xs ?_ | (refine Xg ?_;refine Xs ?_)));refine Xg ?_;exact h.g):p:=h ⟨hq⟩
def Za5 (hq:q) (h:Bx q->p:=by intro h;(iterate 5 (first | refine Xs ?_ | (refine Xg ?_;refine Xs ?_)));exact h.g):p:=h ⟨hq⟩
def Zb5 {p q:Prop} (hq:q) (h:Bx q->p:=by intro h;(iterate 5 (first | refine Xs ?_ | (refine Xg ?_;refine Xs ?_)));refine Xg ?_;exact h.g):p:=h ⟨hq⟩
def Za6 (hq:q) (h:Bx q->p:=by intro h;(iterate 6 (first | refine Xs ?_ | (refine Xg ?_;refine Xs ?_)));exact h.g):p:=h ⟨hq⟩
def Zb6 {p q:Prop} (hq:q) (h:Bx q->p:=by intro h;(iterate 6 (first | refine Xs ?_ | (refine Xg ?_;refine Xs ?_)));refine Xg ?_;exact h.g):p:=h ⟨hq⟩
def Za7 (hq:q) (h:Bx q->p:=by intro h;(iterate 7 (first | refine Xs ?_ | (refine Xg ?_;refine Xs ?_)));exact h.g):p:=h ⟨hq⟩
def Zb7 (hq:q) (h:Bx q->p:=by intro h;(iterate 7 (first | refine Xs ?_ | (refine Xg ?_;refine Xs ?_)));refine Xg ?_;exact h.g):p:=h ⟨hq⟩
def Zb8 (hq:q) (h:Bx q->p:=by intro h;(iterate 8 (first | refine Xs ?_ | (refine Xg ?_;refine Xs ?_)));refine Xg ?_;exact h.g):p:=h ⟨hq⟩
def Za9 (hq:q) (h:Bx q->p:=by intro h;(iterate 9 (first | refine Xs ?_ | (refine Xg ?_;refine Xs ?_)));exact h.g):p:=h ⟨hq⟩
def Zb9 (hq:q) (h:Bx q->p:=by intro h;(iterate 9 (first | refine Xs ?_ | (refine Xg ?_;refine Xs ?_)));refine Xg ?_;exact h.g):p:=h ⟨hq⟩
def aqg (hq:q) (h:Bx q->p:=by intro h;(iterate 10 (first | refine Xs ?_ | (refine Xg ?_;refine Xs ?_)));exact h.g):p:=h ⟨hq⟩
def aew (hq:q) (h:Bx q->p:=by intro h;(iterate 10 (first | refine Xs ?_ | (refine Xg ?_;refine Xs ?_)));refine Xg ?_;exact h.g):p:=h ⟨hq⟩
def aqh (hq:q) (h:Bx q->p:=by intro h;(iterate 11 (first | refine Xs ?_ | (refine Xg ?_;refine Xs ?_)));exact h.g):p:=h ⟨hq⟩
def aqi (hq:q) (h:Bx q->p:=by intro h;(iterate 12 (first | refine Xs ?_ | (refine Xg ?_;refine Xs ?_)));refine Xg ?_;exact h.g):p:=h ⟨hq⟩
def Un (hq:q) (h:Bx q->p:=by intro h;(iterate 13 (first | refine Xs ?_ | (refine Xg ?_;refine Xs ?_)));refine Xg ?_;exact h.g):p:=h ⟨hq⟩
def aqj (hq:q) (h:Bx q->p:=by intro h;(iterate 14 (first | refine Xs ?_ | (refine Xg ?_;refine Xs ?_)));refine Xg ?_;exact h.g):p:=h ⟨hq⟩
def aqk (hq:q) (h:Bx q->p:=by intro h;(iterate 15 (first | refine Xs ?_ | (refine Xg ?_;refine Xs ?_)));refine Xg ?_;exact h.g):p:=h ⟨hq⟩
def Zb0 {p q:Prop} (hq:q) (h:Bx q->p:=by intro h;refine Xg ?_;exact h.g):p:=h ⟨hq⟩
def Zz (hq:q) (h:Bx q->p:=by intro h;(repeat (first | refine Xs ?_ | (refine Xg ?_;refine Xs ?_)));refine Xg ?_;exact h.g):p:=h ⟨hq⟩
def zP (h:Bx q->p:=by intro h;refine Zz ?_;exact h.g):Bx q->p:=h
section
variable {p:Prop} {P:Program} {r:Option Nat} {n:Nat} {ops:AO} {Q:Post} {rest l:LO} {σ:St} {w:Wd} {ty:Td} {pos:String} {after:Array Edge} {w0:Wd} {S:NP} {rs:List HP} {put:HP->List HP} {d t:Nat}
def Cz {φ:Prop} [Decidable φ] {c:Od} {x y:Code} (ht:φ->FW P r n x Q σ w) (hf: ¬φ->FW P r n y Q σ w) (z:Bx (FW P r n (.cond c x y) Q σ w)->p:=by exact zP) (hc:evF σ c=.bool (decide φ):=by exact rfl):p:=z ⟨afh hc ht hf⟩
def Sz {φ:Prop} [Decidable φ] (h1:φ->FL P r n ops Q (⟨dst,op,ty,pos,after,some (j,b)⟩::rest) (upd σ t (.bool true)) w) (h0: ¬φ->FL P r n ops Q (⟨dst,op,ty,pos,after,some (j,b)⟩::rest) (upd σ t (.bool false)) w)
    (z:Bx (FL P r n ops Q (⟨dst,op,ty,pos,after,some (j,b)⟩::rest) σ w)->p:=by exact zP) (hj:(ops[j]?).bind (λo:Oper=>o.dst)=some t:=by exact rfl) (hb:σ.get t=.bool (decide φ):=by exact rfl):p:=z ⟨aeo hb h1 h0⟩
def Kz {f:FuncId} {xs:List Od} {ats:Array Td} {vals:LV} (hc:Rk P f vals w v) (h: ∀w',Sep w0 S rs w'->Kept noB w w'->FL P r n ops Q rest (upd σ d v) w')
    (z:Bx (FL P r n ops Q (⟨some d,.call {callee:=.value (.func f),args:=xs.toArray,argTypes:=ats},ty,pos,after,none⟩::rest) σ w)->p:=by exact zP) (H:Sep w0 S rs w:=by assumption) (hv:xs.map (evF σ)=vals:=by exact rfl) (hd:Nat.blt d n=true:=by exact rfl) (he:qm P f:=by exact eT):p:=z ⟨WJ H hc hv hd h⟩
def Nz {f:FuncId} {xs:List Od} {ats:Array Td} {vals:LV} {α:Type} {val:α->Value} {φ:α->Prop} {q:α->HP} (hc:aR P f vals w λv w'=>∃x,v=val x/\φ x/\Turn noB (q x) w w') (h: ∀x w',φ x->Sep w0 S (q x::rs) w'->Kept noB w w'->FL P r n ops Q rest (upd σ d (val x)) w')
    (z:Bx (FL P r n ops Q (⟨some d,.call {callee:=.value (.func f),args:=xs.toArray,argTypes:=ats},ty,pos,after,none⟩::rest) σ w)->p:=by exact zP) (H:Sep w0 S rs w:=by assumption) (hv:xs.map (evF σ)=vals:=by exact rfl) (hd:Nat.blt d n=true:=by exact rfl) (he:qm P f:=by exact eT):p:=z ⟨F6 H hc hv hd h⟩
def Az {zv:Value} [hz:Zero P T zv] {cs:LV} (h: ∀b w',Sep w0 S (blk b cs T::rs) w'->Kept noB w w'->FL P r n ops Q rest (upd σ d (.pointer (some ⟨b,0,none⟩))) w') (z:Bx (FL P r n ops Q (⟨some d,.alloc T,ty,pos,after,none⟩::rest) σ w)->p:=by exact zP)
    (H:Sep w0 S rs w:=by assumption) (hcs:zv.cells=cs.toArray:=by exact rfl) (hd:Nat.blt d n=true:=by exact rfl):p:=z ⟨M7 H hcs hd h⟩
def Uz {b o:Nat} [h1:OneCell P T] {cs cs':LV} {E:Td} (h: ∀w',Sep w0 S (put (blk b cs' E)) w'->FL P r n ops Q rest σ w') (z:Bx (FL P r n ops Q (⟨none,.store T x y,ty,pos,after,none⟩::rest) σ w)->p:=by exact zP)
    (H:Sep w0 S rs w:=by assumption) (hx:evF σ x=.pointer (some ⟨b,o,none⟩):=by exact rfl) (hy:evF σ y=v:=by exact eV) (hv:v.oneCell'=true:=by exact rfl)
    (hat:At rs (blk b cs E) put:=by exact aT) (ho:Nat.blt o cs.length=true:=by exact rfl) (hs:cs.set o v=cs':=by first | (simp only[zdr,zfq];rfl) | exact rfl):p:=z ⟨rY H hx hy hv hat ho hs h⟩
def Dz {id:Nat} {lo:LO} (h:dS n lo.toArray=true->∀w',Sep w0 S rs w'->FG P r n lo.toArray Q (List.replicate lo.length false) [] σ w') (z:Bx (FW P r n (.region id lo.toArray true) Q σ w)->p:=by exact zP) (H:Sep w0 S rs w:=by assumption) (hm:P.follows .mixedOrders=true:=by exact rfl) (eZ:dS n lo.toArray=true:=by kernel_rfl):p:=z ⟨ahk hm H eZ h⟩
end
variable {R:Value->Wd->Prop}
section
variable {P:Program} {r:Option Nat} {n:Nat} {ops:AO} {Q:Post} {rest:LO} {σ:St} {w w0:Wd} {S:NP} {rs:List HP} {put:HP->List HP} {ty:Td} {pos:String} {after:Array Edge}
def Ro {α:Type} {g:Od} {p:Tmp} {assign body:Code} {gf:FuncId} {lb:LV} (enc:α->Value) (xs:List α) (J:List α->HP) (L:List α->α->HP) (Fr0:List HP) (H:Sep w0 S (J []::Fr0) w)
    (hg:evF σ g=.func (.func gf) #[] lb.toArray) (hp:Nat.blt p n=true)
    (aiy: ∀(l D:Nat) (ro rb:Obj) (pre:List α) (x:α) (Fr:List HP) (W:Wd),pre++[x]<+:xs->Sep w0 S (obj l ro::obj D (.deferred (some []))::J pre::Fr) W->
      FW P (some l) n assign (Lb λτ W'=>∃ex:List HP,Sep w0 S (obj l ro::obj D (.deferred (some []))::(ex++J pre::Fr)) W'/\
        ∀W'',Sep w0 S (obj l rb::obj D (.deferred (some []))::(ex++J pre::Fr)) W''->FW P (some l) n body (aad (λW3=>Sep w0 S (obj l rb::obj D (.deferred (some []))::J (pre++[x])::Fr) W3) (λW3=>Sep w0 S [obj l rb,obj D (.deferred (some [])),L pre x] W3)) τ W'') (upd ⟨σ.get,[]⟩ p (enc x)) W)
    (aiz: ∀(l D:Nat) (ro rj:Obj) (W:Wd),Sep w0 S (obj l ro::obj D (.deferred (some []))::J []::Fr0) W->
      (∀(pre:List α) (x:α) (Fr:List HP) (W:Wd),pre++[x]<+:xs->Sep w0 S (obj l ro::obj D (.deferred (some []))::J pre::Fr) W->Uh P l [enc x] W λb W'=>if b=true then Sep w0 S (obj l ro::obj D (.deferred (some []))::J (pre++[x])::Fr) W' else Sep w0 S [obj l rj,obj D (.deferred (some [])),L pre x] W')->
      aR P gf (.func (.yield l) #[] #[]::lb) W λ_ W'=>Sep w0 S [obj l ro,obj D (.deferred (some [])),J xs] W'\/∃pre x,pre++[x]<+:xs/\Sep w0 S [obj l rj,obj D (.deferred (some [])),L pre x] W')
    (Ck: ∀(D:Nat) (W:Wd),Sep w0 S [obj D (.deferred (some [])),J xs] W->Q .normal ⟨σ.get,{target:=.collected D,args:= #[]}::σ.ds⟩ W)
    (apl: ∀(D:Nat) (W:Wd) (pre:List α) (x:α),pre++[x]<+:xs->Sep w0 S [obj D (.deferred (some [])),L pre x] W->Q .ret ⟨σ.get,{target:=.collected D,args:= #[]}::σ.ds⟩ W) (he:qm P gf:=by exact eT):
    FW P none n (.rangeFunc g #[p] assign body) Q σ w:=by
  intro a ha;refine wpIn_rangeFunc λfn hfn=>?_
  let rec_:LoopState->Obj:=λst=>abN st fn a.tmps #[p] assign body w.heap.size
  let recj:Obj:=.loop {state:=.done,pending:=some .ret,fn:=fn,tmps:=a.tmps,params:= #[p],assign:=assign,body:=body,defers:=w.heap.size}
  obtain⟨W1,hW1⟩: ∃W1,(w.alloc (.deferred (some []))).alloc (rec_ .ready)=W1:=⟨_,rfl⟩
  have k:Sep w0 S (obj (w.heap.size+1) (rec_ .ready)::obj w.heap.size (.deferred (some []))::J []::Fr0) W1:=by
    have h1:=(H.alloc (.deferred (some []))).alloc (rec_ .ready);rw[World.size_alloc]at h1;rw[<-hW1];exact h1
  refine⟨w.heap.size+1,[{target:=.collected w.heap.size,args:= #[]}],W1,{target:=.fn (.func gf) lb.toArray,args:= #[.func (.yield (w.heap.size+1)) #[] #[]]},W1,gf,
    #[.func (.yield (w.heap.size+1)) #[] #[]]++lb.toArray,W1,?_,?_,λ_ _=>trivial,?_,(λh=>by cases h),?_⟩
  . rw[<-hW1];exact run_enterLoop_outer _ _ _ _ _
  . rw[ha.eval]
    simp only[resolve,hg,Deferred.ofValue];simp[evF]
  . simp[invoke,he.run]
  have am4:=aiz (w.heap.size+1) w.heap.size (rec_ .ready) recj W1 k (λpre x Fr W jA HW=>?_)
  . have e:(#[.func (.yield (w.heap.size+1)) #[] #[]]++lb.toArray:Array Value)=(Value.func (.yield (w.heap.size+1)) #[] #[]::lb).toArray:=sM
    rw[e];refine qY none (Calls.mono am4 λen W3 hr=>?_);cases en with
    | returned v=>
      rcases hr with hr | ⟨pre,x,jA,hr⟩
      . have hl:=Sep.obj hr At0
        refine⟨none,_,run_endLoop hl sM,?_⟩;refine⟨⟨σ.get,{target:=.collected w.heap.size,args:= #[]}::σ.ds⟩,⟨ha.size,?_,ha.get⟩,Ck w.heap.size _ ?_⟩
        . show [_]++a.defers=_
          rw[ha.defers];rfl
        exact(Sep.XF hr).bH
      have hl:=Sep.obj hr At0;refine⟨some .ret,_,run_endLoop hl sM,?_⟩;refine wpIn_ret ⟨⟨σ.get,{target:=.collected w.heap.size,args:= #[]}::σ.ds⟩,⟨ha.size,?_,ha.get⟩,apl w.heap.size _ pre x jA ?_⟩
      . show [_]++a.defers=_
        rw[ha.defers];rfl
      exact(Sep.XF hr).bH
    | _=>exact hr.elim

  have hl:=Sep.obj HW At0;refine⟨fn,_,assign,body,run_yield hl sM,?_⟩;refine roundIn_of_wpIn (F:=fen none) trivial ?_;have hb:=aiy (w.heap.size+1) w.heap.size (rec_ .ready) (rec_ .busy) pre x Fr W jA HW
  have YA:Rep n (upd ⟨σ.get,[]⟩ p (enc x)) {tmps:=((#[p].zip [enc x].toArray).foldl (λtmps (t,a)=>tmps.setIfInBounds t a) a.tmps),defers:=[]}:=by
    have h0:Rep n ⟨σ.get,[]⟩ {tmps:=a.tmps,defers:=[]}:=⟨ha.size,rfl,ha.get⟩;have h1:=h0.put (zbe hp) (enc x);simpa[Act.put]using h1
  refine Go.wpIn_mono (hb _ YA) λen a1 W1' ⟨τ,hτ,hq⟩=>?_;cases en with
  | normal=>
    obtain⟨ex,HW1,hB⟩:=hq;have hl1:=Sep.obj HW1 At0;refine⟨_,run_beginRound hl1 rfl,?_⟩;refine Go.wpIn_mono (hB _ (Sep.XF HW1) a1 hτ) λen a2 W2 ⟨τ2,hτ2,p8⟩=>?_;cases en with
    | normal=>
      have hl2:=Sep.obj (show Sep w0 S _ W2 from p8) At0;exact⟨_,_,run_endRound none hl2,true,rfl,by show ite (true=true) _ _;rw[zac rfl];exact Sep.XF p8⟩
    | ret=>
      have hl2:=Sep.obj (show Sep w0 S _ W2 from p8) At0;exact⟨_,_,run_endRound (some .ret) hl2,false,rfl,by show ite (false=true) _ _;rw[zab dC];exact Sep.XF p8⟩
    | _=>exact p8.elim
  | _=>exact hq.elim
/-! Results in cells,behind ranges. -/
def sS {fn:Func} {tmps:Array Value} {R:Ending->Wd->Prop}: ∀(ds:List Deferred) (w:Wd),Goes ds w (λw'=>∃v,(results fn tmps).run P w'=.ok v w'/\R (.returned v) w')->LeavesInM (fen none) 0 P fn tmps R ds .returning w
 | [],w,⟨v,hr,h⟩=>⟨v,hr,h⟩
 | d::ds,w,⟨D,ht,hh,hg⟩=>⟨(λe=>by cases e),.inl ⟨D,_,ht,run_takeDeferred hh,sS ds _ hg⟩⟩
def goes_mono {R R':Wd->Prop} (h: ∀w,R w->R' w): ∀{ds:List Deferred} {w:Wd},Goes ds w R->Goes ds w R'
 | [],_,hg=>h _ hg
 | _::_,_,⟨D,ht,hh,hg⟩=>⟨D,ht,hh,goes_mono h hg⟩
def amd (P:Program) (l:List ResultVar) (R:Value->Wd->Prop):Post:=λe σ w=>match e with
 | .normal | .ret=>Goes σ.ds w λw'=>∃vs,qJ P σ w' l vs/\R (fG vs) w'
 | _=>False
def Ga {l:List ResultVar} (h: ∃vs,qJ P σ w l vs/\R (fG vs) w) (hd:σ.ds=[]:=by exact rfl):amd P l R .ret σ w:=by
 show Goes σ.ds w _
 rw[hd];exact h
def yV {l:List ResultVar} {D:Nat} (H:Sep w0 S rs w) (hat:At rs (Mw.obj D (.deferred (some []))) put) (hR: ∀w',Sep w0 S (put (Mw.obj D (.deferred none))) w'->∃vs,qJ P σ w' l vs/\R (fG vs) w')
    (hd:σ.ds=[{target:=.collected D,args:= #[]}]:=by exact rfl):amd P l R .ret σ w:=by
  show Goes σ.ds w _
  rw[hd];have hD:=H.obj hat;have aS:=lZ hD;exact⟨D,rfl,hD,hR _ (H.setObj hat ⟨rfl,rfl,rfl,sM,λk _ hS=>by simp only;rw[zez (λe=>hS e.symm)]⟩ (by simp[aS]))⟩
def aht {f:FuncId} {fn:Func} {l:List ResultVar} {a0:Value}
    (hf:P.funcs[f]? =some fn) (h:FW P none n c (amd P l R) (upd und 0 a0) w) (q:FnB fn c n l 1:=by exact⟨rfl,rfl,rfl,rfl⟩):aR P f [a0] w R:=
  ES (args:=[a0]) hf q.x q.y q.u (λe s a w' hs hq=>by
    cases e with
    | normal=>exact⟨.inl rfl,sS _ _ (goes_mono (λH ⟨vs,h1,h2⟩=>⟨_,tY hs.get q.z h1,h2⟩) hq)⟩
    | ret=>exact⟨.inr rfl,sS _ _ (goes_mono (λH ⟨vs,h1,h2⟩=>⟨_,tY hs.get q.z h1,h2⟩) hq)⟩
    | _=>exact hq.elim) h
end
abbrev Ent:=L8×Value
def l7 (D:List Ent) (k:L8):Option Value:=(D.find? λp=>p.1==k).map (·.2)
def AB (D:List Ent) (k:L8) (v:Value):List Ent:=if(l7 D k).isSome=true then D.map (λp=>if p.1=k then(k,v)else p)else D++[(k,v)]
def XM (D:List Ent) (k:L8):List Ent:=D.filter λp=> !(p.1==k)
def an9:Value->L8
 | .string a=>a.data.toList
 | _=>[]
def kvE (e:MapEntry):Ent:=(an9 e.key,e.val)
structure NV (es:List MapEntry) (clock:Nat) (D:List Ent):Prop where
 keys:nY es
 data:es.map kvE=D
 nd:(D.map (·.1)).Nodup
 born:(es.map (·.born)).Nodup
 old: ∀e∈es,e.born<clock
def NW {e:MapEntry} {k:L8} (h: ∃a,e.key=.string a):jd ⟨k.toArray⟩ e=((kvE e).1==k):=by
 obtain⟨a,ha⟩:=h;unfold jd kvE;rw[ha];show(a==⟨k.toArray⟩)=(a.data.toList==k)
 rw[NU,zdt];simp only[beq_iff_eq];constructor
 .intro h;rw[h]
 intro h;rw[<-h]
def Lh {k:L8}: ∀{es:List MapEntry},nY es->oO es ⟨k.toArray⟩=l7 (es.map kvE) k
 | [],_=>rfl
 | e::es,h=>by
  have ih:=Lh (k:=k) (es:=es) λx hx=>h x (zat _ hx);have h1:=NW (k:=k) (h e zao);unfold oO l7 at ih ⊢;rw[zav,zch,zch,h1];cases hb:(kvE e).1==k with
  | true=>rfl
  | false=>exact ih
variable {k:L8} {D:List Ent}
def Dc:l7 D k=none↔k∉D.map (·.1):=by
 unfold l7;rw[zfn,zfp];constructor
 .intro h hm
  obtain⟨p,hp,rfl⟩:=zaq.1 hm;exact h p hp (beq_self_eq_true _)
 intro h p hp he;exact h (zaq.2 ⟨p,hp,eq_of_beq he⟩)
def ahu (h:l7 D k=some v):(k,v)∈D:=by
 unfold l7 at h;obtain⟨p,hp,rfl⟩:=zbc.1 h;have h1:=zev hp;have h2:=List.find?_some hp;rw[<-eq_of_beq h2];exact h1
def aex:(AB D k v).map (·.1)=if k∈D.map (·.1)then D.map (·.1)else D.map (·.1)++[k]:=by
  unfold AB
  by_cases h:k∈D.map (·.1)
  . have h1:(l7 D k).isSome=true:=by
      rw[Option.isSome_iff_ne_none];exact λe=>Dc.1 e h
    rw[zac h1,zac h,zdh];refine zco λp _=>?_;show(if p.1=k then(k,v)else p).1=p.1
    split
    . rename_i e;exact e.symm
    rfl
  have h1: ¬(l7 D k).isSome=true:=by
    rw[Dc.2 h];simp
  rw[zab h1,zab h,zai];rfl
def abU (h:(D.map (·.1)).Nodup):((AB D k v).map (·.1)).Nodup:=by
 rw[aex]
 split
 .exact h
 rename_i hk;rw[zeo];exact⟨h,sM,λa ha b hb e=>by rw[zau]at hb;subst hb;subst e;exact hk ha⟩
def ahv {i:L8}:l7 (AB D k v) i=if i=k then some v else l7 D i:=by
 unfold AB
 by_cases h:(l7 D k).isSome=true
 .rw[zac h]
  by_cases hi:i=k
  .subst hi
   rw[zac rfl]
   induction D with
   | nil=>cases h
   | cons p D ih=>
    unfold l7 at h ih ⊢;rw[zav,zch]
    by_cases hp:p.1=i
    .rw[zac hp];simp
    rw[zab hp,show(p.1==i)=false from beq_eq_false_iff_ne.2 hp];rw[zch,show(p.1==i)=false from beq_eq_false_iff_ne.2 hp]at h;exact ih h
  rw[zab hi];clear h
  induction D with
  | nil=>rfl
  | cons p D ih=>
   unfold l7 at ih ⊢;rw[zav,zch,zch]
   by_cases hp:p.1=k
   .rw[zac hp,show((k,v).1==i)=false from beq_eq_false_iff_ne.2 λe=>hi e.symm,show(p.1==i)=false from beq_eq_false_iff_ne.2 λe=>hi (e.symm.trans hp)]
    exact ih
   rw[zab hp];cases p.1==i with
   | true=>rfl
   | false=>exact ih
 rw[zab h];have hn:l7 D k=none:=by simpa using h
 unfold l7 at hn ⊢;rw[List.find?_append]
 by_cases hi:i=k
 .subst hi
  rw[zac rfl];rw[zfn]at hn;rw[hn];simp
 rw[zab hi]
 have :([(k,v)]:List Ent).find? (λp=>p.1==i)=none:=by
  rw[zch,show((k,v).1==i)=false from beq_eq_false_iff_ne.2 λe=>hi e.symm];rfl
 rw[this,Option.or_none]
def ajV (h:(D.map (·.1)).Nodup):((XM D k).map (·.1)).Nodup:=h.sublist (List.filter_sublist.map _)
def gQ (b:Nat) (D:List Ent):HP:=exH λx:Array MapEntry×Nat=>star (obj b (.map x.1 x.2)) (jB (NV x.1.toList x.2 D))
section
variable {w0 w w':Wd} {S:NP} {rs:List HP} {put:HP->List HP} {P:Program} {D:List Ent} {b:Nat}
def Df {F:NP}:(gQ b D).ok F w↔(∀x,F x↔x=b)/\∃es clock,w.heap[b]? =some (.map es clock)/\NV es.toList clock D:=by
 constructor
 .rintro⟨⟨es,c⟩,F1,F2,hF,hd,⟨h1,h2⟩,⟨h3,h5⟩⟩
  refine⟨λx=>?_,es,c,h2,h3⟩;rw[hF,h1];exact⟨λh=>h.elim id λh=>(h5 x h).elim,.inl⟩
 rintro⟨h1,es,c,h2,h3⟩;exact⟨⟨es,c⟩,F,λ_=>False,λx=>sM,λ_ _ h=>h,⟨h1,h2⟩,⟨h3,λ_ h=>h⟩⟩
def Sep.Uo (h:Sep w0 S rs w) (hat:At rs (gQ b D) put): ∃es clock,w.heap[b]? =some (.map es clock)/\NV es.toList clock D:=by
 obtain⟨F,hp,_,_⟩:=h.focus hat;exact(Df.1 hp).2
def Sep.Uq (h:Sep w0 S rs w) (hat:At rs (Mw.obj b (Obj.map #[] 0)) put):Sep w0 S (put (gQ b [])) w:=
 h.imp hat λF hF=>Df.2 ⟨hF.1, #[],0,hF.2,⟨by simp[nY],rfl,sM,sM,sM⟩⟩
def Sep.aoa (h:Sep w0 S rs w) (hat:At rs (gQ b D) put):(D.map (·.1)).Nodup:=by
 obtain⟨es,c,_,hm⟩:=h.Uo hat;exact hm.nd
def nE {k e:Td} [hm:IsMap P T k e] [hk:lQ P k] {z:Value} [hz:Zero P e z] {i:L8}
    (H:Sep w0 S rs w) (hat:At rs (gQ b D) put) (hx:ρ x=.map (some b)) (hy:ρ y=str i):Gives P ρ (.lookup T x y false) ty w ((l7 D i).getD z) w:=by
  obtain⟨es,c,hb,x9⟩:=H.Uo hat;have:=BL (P:=P) (ty:=ty) (T:=T) (i:=⟨i.toArray⟩) hb x9.keys (λ_=>rfl) hx hy;rw[Lh x9.keys,x9.data]at this;exact this
def Sep.Ur {D':List Ent} {es':Array MapEntry} {c':Nat} (H:Sep w0 S rs w) (hat:At rs (gQ b D) put) (h:NV es'.toList c' D'):Sep w0 S (put (gQ b D')) {w with heap:=w.heap.setIfInBounds b (.map es' c')}:=by
  obtain⟨F,hp,_,j5⟩:=H.focus hat;obtain⟨hF,es,c,hb,x9⟩:=Df.1 hp;have aiw:=lZ hb
  exact j5 _ F _ ⟨rfl,rfl,rfl,sM,λj hj hFj=>by simp only[zbx];rw[zab (λe=>hFj ((hF j).2 e.symm))]⟩
      (Df.2 ⟨hF,es',c',by simp[aiw],h⟩) λb hb=>.inl hb
def aey (k:L8) (v:Value): ∀(es:List MapEntry) (j:Nat) (e:MapEntry),es[j]? =some e->(kvE e).1=k->((es.map kvE).map (·.1)).Nodup->
    (es.modify j λe=>{e with key:=str k,val:=v}).map kvE=(es.map kvE).map λp=>if p.1=k then(k,v)else p:=by
  intro es
  induction es with
  | nil=>intro j e h;simp at h
  | cons x es ih=>
    intro j e hj nP hn;rw[zav,zav,zfa]at hn;cases j with
    | zero=>
      simp at hj;subst hj;rw[List.modify_zero_cons,zav,zav,zav,zac nP]
      have Gs:(es.map kvE).map (λp=>if p.1=k then(k,v)else p)=es.map kvE:=by
        conv=>rhs;rw[<-List.map_id (es.map kvE)]
        refine zco λp hp=>?_;rw[zab (λe=>hn.1 (by rw[nP,<-e];exact zaq.2 ⟨p,hp,rfl⟩))];rfl
      rw[Gs];rfl
    | succ j=>
      rw[List.modify_succ_cons,zav,zav,zav];simp only[zck]at hj;have uh:(kvE e).1∈(es.map kvE).map (·.1):=zaq.2 ⟨kvE e,zaq.2 ⟨e,zag hj,rfl⟩,rfl⟩;rw[zab (λh=>hn.1 (by rw[h,<-nP];exact uh)),ih j e hj nP hn.2]
def Ar {ty:Td} {T k e:Td} [hm:IsMap P T k e] [hk:lQ P k] {i:L8}
    (H:Sep w0 S rs w) (hat:At rs (gQ b D) put) (hx:ρ x=.map (some b)) (hy:ρ y=str i) (hz:ρ z=v):
    ∃w',OV P ρ (.mapUpdate T x y z) ty w w'/\Sep w0 S (put (gQ b (AB D i v))) w':=by
  obtain⟨es,c,hb,x9⟩:=H.Uo hat;obtain⟨r,h1,h2,h3⟩:=oL (P:=P) (w:=w) hk.und ⟨i.toArray⟩ es.toList x9.keys;have dX:=nN (P:=P) (w:=w) hk.und false ⟨i.toArray⟩ 9999;have y9: ∀o:Obj,(setObj b o).run P w=.ok () {w with heap:=w.heap.setIfInBounds b o}:=λo=>by simp[Go.setObj,Sem.run,hb]
  have EN:ρ y=.string ⟨i.toArray⟩:=hy;rw[Lh x9.keys,x9.data]at h2;cases r with
  | none=>
    refine⟨{w with heap:=w.heap.setIfInBounds b (.map (es.push {key:=.string ⟨i.toArray⟩,val:=v,born:=c}) (c+1))},λ_ _ _ _=>?_,H.Ur hat ⟨?_,?_,abU x9.nd,?_,?_⟩⟩
    . simp only[execOp,hx,EN,hz,Instr.mapUpdate,zbi,run_underlying hm.und,zam,iY hb]
      rw[dX];simp only[zam,h1,y9,zbl]
    . intro e he
      simp at he
      rcases he with he | he
      . exact x9.keys e (by simpa using he)
      exact⟨_,by rw[he]⟩
    . have h0:l7 D i=none:=by rw[<-h2];rfl
      rw[zfu,zai,x9.data];unfold AB;rw[zab (by rw[h0];simp)];rfl
    . rw[zfu,zai,zeo]
      refine⟨x9.born,sM,λa ha d hd e=>?_⟩;obtain⟨x,hx,rfl⟩:=zaq.1 ha;simp at hd;have:=x9.old x hx;omega
    intro e he;rw[zfu,zbk,zau]at he
    rcases he with he | rfl
    . have:=x9.old e he;omega
    exact zfl _
  | some jv=>
    obtain⟨j,u⟩:=jv;obtain⟨e,he,nP,aS⟩:=h3 j u rfl;have hek:=x9.keys e (zag he)
    have hei:(kvE e).1=i:=by
      rw[NW hek]at nP;exact eq_of_beq nP
    have asJ:e.key=.string ⟨i.toArray⟩:=by
      obtain⟨a,ha⟩:=hek;rw[ha];unfold kvE at hei;rw[ha]at hei;rw[Ej a,show a.data.toList=i from hei];rfl
    have Ah:(((es[j]?).map (·.key)).getD (.string ⟨i.toArray⟩))=.string ⟨i.toArray⟩:=by
      have :es[j]? =some e:=by simpa using he
      rw[this];simp[asJ]
    have aix:(Instr.keyThatStays (.string ⟨i.toArray⟩) (.string ⟨i.toArray⟩)).run P w=.ok (.string ⟨i.toArray⟩) w:=by simp[Instr.keyThatStays,Instr.sameBits]
    have Yf:(es.modify j λe=>{e with key:=str i,val:=v}).toList.map (·.born)=es.toList.map (·.born):=by
      rw[zfh];refine zey λm=>?_;simp only[zbz,List.getElem?_modify];cases om:es.toList[m]? with
      | none=>rfl
      | some x=>simp only[zdu];split<;>rfl
    refine⟨{w with heap:=w.heap.setIfInBounds b (.map (es.modify j λe=>{e with key:=.string ⟨i.toArray⟩,val:=v}) c)},λ_ _ _ _=>?_,H.Ur hat ⟨?_,?_,abU x9.nd,by exact Yf▸x9.born,?_⟩⟩
    . simp only[execOp,hx,EN,hz,Instr.mapUpdate,zbi,run_underlying hm.und,zam,iY hb]
      rw[dX];simp only[zam,h1,Ah,aix,y9,zbi,zbl]
    . intro e' he'
      simp only[zfh]at he';obtain⟨m,om,rfl⟩:=List.mem_iff_getElem.1 he';rw[List.getElem_modify]
      split
      . exact⟨_,rfl⟩
      exact x9.keys _ (List.getElem_mem _)
    . have h0:l7 D i=some u:=by rw[<-h2];rfl
      unfold AB;rw[zac (by rw[h0];rfl),<-x9.data,zfh];exact aey i v _ j e he hei (by rw[x9.data];exact x9.nd)
    intro x hx;have :x.born∈(es.modify j λe=>{e with key:=str i,val:=v}).toList.map (·.born):=zaq.2 ⟨x,hx,rfl⟩;rw[Yf]at this;obtain⟨y,hy,e⟩:=zaq.1 this;rw[<-e];exact x9.old y hy
def Po {ty:Td} {T U k e:Td} [hm:IsMap P T k e] [hk:lQ P k] {i:L8}
    (H:Sep w0 S rs w) (hat:At rs (gQ b D) put) (hx:ρ x=.map (some b)) (hy:ρ y=str i):
    ∃w',Gives P ρ (.call {callee:=.builtin .delete,args:= #[x,y],argTypes:= #[T,U]}) ty w (.tuple #[]) w'/\Sep w0 S (put (gQ b (XM D i))) w':=by
  obtain⟨es,c,hb,x9⟩:=H.Uo hat;obtain⟨r,h1,h2,h3⟩:=oL (P:=P) (w:=w) hk.und ⟨i.toArray⟩ es.toList x9.keys;have dX:=nN (P:=P) (w:=w) hk.und es.isEmpty ⟨i.toArray⟩ 9999;have y9: ∀o:Obj,(setObj b o).run P w=.ok () {w with heap:=w.heap.setIfInBounds b o}:=λo=>by simp[Go.setObj,Sem.run,hb]
  have EN:ρ y=.string ⟨i.toArray⟩:=hy;rw[Lh x9.keys,x9.data]at h2;cases r with
  | none=>
    have h0:l7 D i=none:=by rw[<-h2];rfl
    have hd:XM D i=D:=by
      unfold XM;rw[zep];intro p hp;have:=Dc.1 h0;have h5:(p.1==i)=false:=beq_eq_false_iff_ne.2 λe=>this (zaq.2 ⟨p,hp,e⟩);rw[h5];rfl
    refine⟨{w with heap:=w.heap.setIfInBounds b (.map es c)},λ_ _ _ _=>?_,H.Ur hat (by rw[hd];exact x9)⟩;simp only[execOp,resolve,invoke,builtin,zcc,zav,zcl,hx,EN,Builtin.delete_,zbi,zbl,zam,List.getElem?_toArray,zce,zck,run_underlying hm.und,iY hb];rw[dX];simp only[zam,h1,zbi,y9,zbl]
  | some jv=>
    obtain⟨j,u⟩:=jv;obtain⟨e,he,nP,aS⟩:=h3 j u rfl;have hek:=x9.keys e (zag he)
    have hei:(kvE e).1=i:=by
      rw[NW hek]at nP;exact eq_of_beq nP
    have RN:j<es.toList.length:=(zbb.1 he).1
    have iA:(es.eraseIdxIfInBounds j).toList=es.toList.eraseIdx j:=by
      rw[Array.eraseIdxIfInBounds];rw[dif_pos (by simpa using RN),Array.toList_eraseIdx]
    refine⟨{w with heap:=w.heap.setIfInBounds b (.map (es.eraseIdxIfInBounds j) c)},λ_ _ _ _=>?_,H.Ur hat ⟨?_,?_,ajV x9.nd,?_,?_⟩⟩
    . simp only[execOp,resolve,invoke,builtin,zcc,zav,zcl,hx,EN,Builtin.delete_,zbi,zbl,zam,List.getElem?_toArray,zce,zck,run_underlying hm.und,iY hb]
      rw[dX];simp only[zam,h1,zbi,y9,zbl]
    . intro x hx
      rw[iA]at hx;exact x9.keys x ((List.eraseIdx_sublist _ _).subset hx)
    . rw[iA,<-x9.data]
      have hn:=x9.nd;rw[<-x9.data]at hn;clear iA aS h3 h1 h2 dX y9;unfold XM
      revert RN hn
      generalize es.toList=l at he |-
      intro RN hn
      induction l generalizing j with
      | nil=>simp at he
      | cons x l ih=>
        rw[zav,zav,zfa]at hn;cases j with
        | zero=>
          simp at he;subst he;rw[List.eraseIdx_cons_zero,zav,zee];rw[zab (by rw[hei];simp)];rw[eq_comm,zep];intro p hp;rw[show(p.1==i)=false from beq_eq_false_iff_ne.2 λe=>hn.1 (by rw[hei,<-e];exact zaq.2 ⟨p,hp,rfl⟩)];rfl
        | succ j=>
          simp only[zck]at he;have uh:(kvE e).1∈(l.map kvE).map (·.1):=zaq.2 ⟨kvE e,zaq.2 ⟨e,zag he,rfl⟩,rfl⟩;rw[List.eraseIdx_cons_succ,zav,zav,zee];rw[show((kvE x).1==i)=false from beq_eq_false_iff_ne.2 λh=>hn.1 (by rw[h,<-hei];exact uh)];show _=kvE x::List.filter (λp=> !(p.1==i)) (List.map kvE l)
          rw[ih j he (by simpa using RN) hn.2]
    . rw[iA]
      exact x9.born.sublist ((List.eraseIdx_sublist _ _).map _)
    intro x hx;rw[iA]at hx;exact x9.old x ((List.eraseIdx_sublist _ _).subset hx)
def vE (r b:Nat) (D L:List Ent):HP:=exH λx:Array MapEntry×Nat×Array Nat=>star (star (obj b (.map x.1 x.2.1)) (obj r (.mapIter (some b) x.2.1 x.2.2 x.2.1))) (jB (NV x.1.toList x.2.1 D/\((leftOf x.1 x.2.2).toList.map kvE).Perm L))
def Us (r b:Nat) (D L:List Ent) (p:Ent):HP:=exH λx:Array MapEntry×Nat×Array Nat×MapEntry=>star (star (obj b (.map x.1 x.2.1)) (obj r (.mapIter (some b) x.2.1 (x.2.2.1.push x.2.2.2.born) x.2.1)))
 (jB ((NV x.1.toList x.2.1 D/\((leftOf x.1 (x.2.2.1.push x.2.2.2.born)).toList.map kvE).Perm L)/\x.2.2.2∈x.1.toList/\x.2.2.2.key=str p.1/\x.2.2.2.val=p.2))
variable {r:Nat} {L:List Ent}
def Sep.ahw (H:Sep w0 S rs w) (hat:At rs (vE r b D L) put):Sep w0 S (put (gQ b D)) w:=by
 obtain⟨F,⟨⟨es,c,seen⟩,F1,F2,hF,hd,⟨G1,G2,hG,Gq,h1,h2⟩,⟨h3,_⟩,h5⟩,_,j5⟩:=H.focus hat;exact j5 w G1 _ (Kept.refl _ _) (Df.2 ⟨h1.1,es,c,h1.2,h3⟩) λx hx=>.inl ((hF x).2 (.inl ((hG x).2 (.inl hx))))
def Sep.Ut {p:Ent} (H:Sep w0 S rs w) (hat:At rs (Us r b D L p) put):Sep w0 S (put (vE r b D L)) w:=by
 refine H.imp hat λF hF=>?_;obtain⟨⟨es,c,seen,e⟩,F1,F2,hF,hd,h,⟨h3,_⟩,h5⟩:=hF;exact⟨⟨es,c,seen.push e.born⟩,F1,F2,hF,hd,h,h3,h5⟩
def ahx {F:NP} (h:(vE r b D L).ok F w): ∃es c seen,(∀x,F x↔x=b\/x=r)/\b≠r/\w.heap[b]? =some (.map es c)/\w.heap[r]? =some (.mapIter (some b) c seen c)/\NV es.toList c D/\((leftOf es seen).toList.map kvE).Perm L:=by
 obtain⟨⟨es,c,seen⟩,F1,F2,hF,hd,⟨G1,G2,hG,Gq,h1,h2⟩,⟨h3,h4⟩,h5⟩:=h;refine⟨es,c,seen,λx=>?_,λe=>Gq b ((h1.1 b).2 rfl) ((h2.1 b).2 e),h1.2,h2.2,h3,h4⟩;rw[hF,hG,h1.1,h2.1];exact⟨λh=>h.elim id λh=>(h5 x h).elim,.inl⟩
def Uu {ty:Td} {T k e:Td} [hm:IsMap P T k e] (H:Sep w0 S rs w) (hat:At rs (gQ b D) put) (hx:ρ x=.map (some b)):
    ∃r w',Gives P ρ (.range T x) ty w (.pointer (some ⟨r,0,none⟩)) w'/\Sep w0 S (put (vE r b D D)) w'/\Kept noB w w':=by
  obtain⟨F,hp,_,j5⟩:=H.focus hat;obtain⟨hF,es,c,hb,x9⟩:=Df.1 hp;have aiw:=lZ hb;refine⟨w.heap.size,w.alloc (.mapIter (some b) c #[] c),λ_ _ _ _=>?_,?_,Kept.alloc _ _⟩
  . simp only[execOp,hx]
    simp only[zbi,run_range_map w T k e b es c hm.und hb,zam,zbl]
  refine j5 _ (λx=>x=b\/x=w.heap.size) _ ((Kept.alloc _ _).mono λ_ h=>h.elim) ?_ λx hx=>?_
  . refine⟨⟨es,c, #[]⟩,λx=>x=b\/x=w.heap.size,λ_=>False,λx=>sM,λ_ _ h=>h,⟨λx=>x=b,λx=>x=w.heap.size,λ_=>Iff.rfl,λx h1 h2=>oM,⟨λ_=>Iff.rfl,?_⟩,⟨λ_=>Iff.rfl,heap_alloc_new _ _⟩⟩,⟨x9,?_⟩,λ_ h=>h⟩
    . show(w.alloc _).heap[b]? =_
      rw[heap_alloc_old _ _ aiw];exact hb
    show((leftOf es #[]).toList.map kvE).Perm D
    unfold leftOf;rw[zgb,zep.2 (λx _=>sM),x9.data]
  rcases hx with rfl | rfl
  . exact .inl ((hF _).2 rfl)
  exact .inr (zbj _)
def yX: ∀{l:List MapEntry} {e:MapEntry},(l.map (·.born)).Nodup->e∈l->l.Perm (e::l.filter λx=> !(x.born==e.born))
 | [],_,_,h=>by cases h
 | x::l,e,hn,h=>by
  rw[zav,zfa]at hn
  rcases zba.1 h with rfl | h
  .rw[zee,zab sM]
   rw[zep.2];intro y hy;rw[show(y.born==e.born)=false from beq_eq_false_iff_ne.2 λh=>hn.1 (by rw[<-h];exact zaq.2 ⟨y,hy,rfl⟩)];rfl
  rw[zee,zac (by rw[show(x.born==e.born)=false from beq_eq_false_iff_ne.2 λh2=>hn.1 (by rw[h2];exact zaq.2 ⟨e,h,rfl⟩)];rfl)];exact((yX hn.2 h).cons x).trans (List.Perm.swap e x _)
def KR {ty:Td} (H:Sep w0 S rs w) (hat:At rs (vE r b D L) put) (hx:ρ x=.pointer (some ⟨r,0,none⟩)):
    (L=[]/\Gives P ρ (.next x false) ty w (.tuple #[.bool false]) w)\/
    ∃p L' w',L.Perm (p::L')/\Gives P ρ (.next x false) ty w (.tuple #[.bool true,str p.1,p.2]) w'/\Sep w0 S (put (Us r b D L' p)) w':=by
  obtain⟨F,hp,_,j5⟩:=H.focus hat;obtain⟨es,c,seen,hF,hbr,hb,hr,x9,Dm⟩:=ahx hp
  rcases run_next_at (P:=P) w ty r b c c seen es c hr hb x9.old (zbj _)with⟨h0,iq⟩ | ⟨e,he,k,Au,iq⟩
  . left
    refine⟨?_,λ_ _ _ _=>?_⟩
    . have :(leftOf es seen).toList=[]:=by
        rw[List.eq_nil_iff_length_eq_zero];simpa using h0
      rw[this]at Dm;exact List.nil_perm.1 Dm
    simp only[execOp,hx];simp only[zbi,iq,zam,zbl]
  right
  obtain⟨heL,hse⟩:=mem_left he;obtain⟨a,ha⟩:=x9.keys e heL
  have hk:e.key=str (kvE e).1:=by
    unfold kvE;rw[ha];exact Ej a
  have hl':(leftOf es (seen.push e.born)).toList=(leftOf es seen).toList.filter λx=> !(x.born==e.born):=by
    unfold leftOf;rw[zgb,zgb,List.filter_filter];refine List.filter_congr λx _=>?_;rw[contains_push];cases seen.contains x.born<;>cases hxe:(x.born==e.born)<;>simp[hxe]
  have Yi:((leftOf es seen).toList.map (·.born)).Nodup:=by
    unfold leftOf;rw[zgb];exact x9.born.sublist (List.filter_sublist.map _)
  refine⟨kvE e,(leftOf es (seen.push e.born)).toList.map kvE,setBlock k r (.mapIter (some b) c (seen.push e.born) c),?_,λ_ _ _ _=>?_,?_⟩
  . refine Dm.symm.trans ?_
    rw[hl',<-zav];exact(yX Yi he).map _
  . simp only[execOp,hx]
    rw[hk]at iq;simp only[zbi,iq,zam,zbl];rfl
  have lI:Kept noB w k:=by
    rcases Au with rfl | rfl
    . exact Kept.refl _ _
    exact Kept.drew _
  have asK:=lZ hr;have asL:r<k.heap.size:=Nat.lt_of_lt_of_le asK lI.size;have EL:k.heap[b]? =some (.map es c):=lI.get hb id
  have bZ:Kept F w (setBlock k r (.mapIter (some b) c (seen.push e.born) c)):=by
    refine(lI.mono λ_ h=>h.elim).trans (T:=F) ⟨rfl,rfl,rfl,by simp[setBlock],λj hj hFj=>?_⟩ λi hi=>.inl hi;show(k.heap.setIfInBounds r _)[j]? =_
    simp only[zbx];rw[zab (λe=>hFj ((hF j).2 (.inr e.symm)))]
  refine j5 _ F _ bZ ?_ λx hx=>.inl hx;refine⟨⟨es,c,seen,e⟩,F,λ_=>False,λx=>sM,λ_ _ h=>h,⟨λx=>x=b,λx=>x=r,hF,λx h1 h2=>hbr (h1.symm.trans h2),⟨λ_=>Iff.rfl,?_⟩,⟨λ_=>Iff.rfl,?_⟩⟩,⟨⟨x9,List.Perm.refl _⟩,heL,hk,rfl⟩,λ_ h=>h⟩
  . show(k.heap.setIfInBounds r _)[b]? =_
    rw[zbx,zab (λe=>hbr e.symm)];exact EL
  show(k.heap.setIfInBounds r _)[r]? =_
  rw[zbx,zac rfl,zac asL]
def Gives.aah {p:Ent} (H:Sep w0 S rs w) (hat:At rs (Us r b D L p) put) (hx:ρ x=.pointer (some ⟨r,0,none⟩)):
    Gives P ρ (.entry x) ty w (.tuple #[str p.1,p.2]) w:=by
  obtain⟨F,⟨⟨es,c,seen,e⟩,F1,F2,hF,hd,⟨G1,G2,hG,Gq,h1,h2⟩,⟨⟨h3,_⟩,h6,h7,h8⟩,h5⟩,_,_⟩:=H.focus hat;intro _ _ _ _;have:=run_entry_at (P:=P) w r b c seen es c e h2.2 h1.2 h6 h3.born;rw[h7,h8]at this;simp only[execOp,hx];simp only[zbi,this,zam,zbl]
end
variable {W:Wd}
section
variable {H:Type} {enc:Td×Value->H} {P:Program}
def DU (hl:laidOutB P=true) {W':Wd} (hk:Kept noB W W') {sp:Nat->Bool}: ∀{ts:List Td} {vs:LV} {ds:List (DataW H)} {ps:List MemPlace},(∀t∈ts,P.readableRec t=true/\t<P.types.size)->
    DataW.TrodAll enc P W 0 (λ_=>true) true ts vs ds ps->(∀x∈ps,x.block<W.heap.size)->(∀x∈ps,sp x.block=true)->DataW.TrodAll enc P W' 0 sp true ts vs ds ps
  | [],[],[],_,_,h,_,_=>h
  | t::ts,v::vs,d::ds,ps,ht,⟨p,q,h1,h2,e⟩,aS,D7=>by
    subst e
    exact⟨p,q,WideElems.Trod_stays hl (ht t zao).1 (ht t zao).2 h1 (λx hx=>hk.below.same (aS x (zcn _ hx))) (λx hx=>D7 x (zcn _ hx)),
      DU hl hk (λu hu=>ht u (zat _ hu)) h2 (λx hx=>aS x (zct _ hx)) (λx hx=>D7 x (zct _ hx)),rfl⟩
  | [],[],_::_,_,_,h,_,_=>h.elim
  | [],_::_,_,_,_,h,_,_=>by cases ‹List (DataW H)› <;>exact h.elim
  | _::_,[],_,_,_,h,_,_=>h.elim
  | _::_,_::_,[],_,_,h,_,_=>h.elim
def ahy {f:Func} {s:ChangeSpec} {apart fresh akx again:Bool} {W':Wd} {args:Array Value} {ds gs:List (DataW H)} {before:List MemPlace} (hl:laidOutB P=true)
    (hW:DataW.Whole enc P f.params.toList s.vars apart W args.toList ds gs before) (ali:s.vars=[]) (hr:f.resultTypes= #[t]) (hb:P.underlying t=some .bool) (eD:(f.params.toList.all λt=>P.readableRec t&&decide (t<P.types.size))=true)
    (hs:s.fn H (ds++gs)={results:=[.lit (.bool true)],args:=ds}) (hk:Kept noB W W') (eZ:Value.okWide P W' .any 0 t (.bool true)):s.post enc P f apart fresh akx again W args (.bool true) W':=by
  have hp: ∀t∈f.params.toList,P.readableRec t=true/\t<P.types.size:=λt ht=>by
    have:=zaz.1 eD t ht;simpa using this
  have hW':=hW;obtain⟨pa,pv,hA,hV,rfl,hz,hn⟩:=hW
  have ae0:gs=[]/\pv=[]:=by
    rw[ali]at hV;exact trodVars_none hV
  obtain⟨rfl,rfl⟩:=ae0;have aS: ∀p∈pa,p.block<W.heap.size:=λp hp=>hW'.lt p (zcn _ hp)
  have ak: ∀(b:Nat) (sp:Nat->Bool) (hd:Bool),DataW.TrodAll enc P W' b sp hd f.resultTypes.toList ((Value.bool true).resultList f.resultTypes.size) (s.fn H (ds++[])).results []:=by
    intro b sp hd;rw[hs,hr];exact trodAll_mk1 (shut_bool hb true)
  have DZ: ∀sp:Nat->Bool,(∀p∈pa,sp p.block=true)->DataW.TrodAll enc P W' 0 sp true f.params.toList args.toList (s.fn H (ds++[])).args pa:=by
    intro sp D7;rw[hs];exact DU hl hk hp hA aS D7
  have hvs: ∀sp:Nat->Bool,DataW.TrodVars enc P W' sp s.vars (s.fn H (ds++[])).vars []:=by
    intro sp;rw[ali,hs];exact rfl
  refine⟨ds,[],pa++[],[],pa,[],hW',ak _ _ _,DZ _ (λp hp=>by simpa using aS p hp),hvs _,World.keptBut_mono (λp hp=>⟨hp,?_⟩) (hk.below.frame (· ∈pa++[])),λ_=>?_⟩
  . simpa using hp
  refine⟨λj t' r hj hv=>?_,_,_,([]++pa)++[],⟨[]++pa,[],trodAll_append (DZ _ (λ_ _=>rfl)) (ak _ _ _),hvs _,rfl,?_,?_⟩,?_⟩
  . exact ok_one hr rfl eZ j t' r hj hv
  . intro b off hp
    have OQ:MemPlace.cell b off∈pa:=by simpa using hp
    rw[hk.below.frozen (aS _ OQ)];exact hz b off (by simpa using OQ)
  . intro ha
    have:=hn ha;simpa using this
  intro p hp _;simpa using hp
def BM {α:Type} {Q:Nat->α->Prop}: ∀n:Nat,(∀i,i<n->∃x,Q i x)->∃l:List α,l.length=n/\∀i x,l[i]? =some x->Q i x
 | 0,_=>⟨[],rfl,λi x h=>by simp at h⟩
 | n+1,h=>by
  obtain⟨l,h1,h2⟩:=BM n λi hi=>h i oM;obtain⟨x,hx⟩:=h n oM;refine⟨l++[x],by simp[h1],λi y hy=>?_⟩;rw[List.getElem?_append]at hy
  split at hy
  .exact h2 i y hy
  rename_i hge
  have hi:i=n:=by
   rcases zdm (i-l.length) 1 with h3 | h3
   .omega
   rw[zdl (by simpa using h3)]at hy;cases hy
  subst hi;rw[h1,zen]at hy;injection hy with hy
  rw[<-hy];exact hx
def BN {α:Type} {f:α->LV} (hf: ∀x,(f x).length=s): ∀(l:List α) (k:Nat) (v:Value),(l.flatMap f)[k]? =some v->∃i j x,l[i]? =some x/\(f x)[j]? =some v/\k=i*s+j
 | [],k,v,h=>by simp at h
 | x::l,k,v,h=>by
  rw[zbh,List.getElem?_append]at h
  split at h
  .exact⟨0,k,x,rfl,h,oM⟩
  rename_i hge;obtain⟨i,j,y,h1,h2,h3⟩:=BN hf l _ v h;rw[hf]at h3 hge;exact⟨i+1,j,y,by simpa using h1,h2,by rw[Nat.add_mul];omega⟩
def BO {α:Type} {f:α->LV} (hf: ∀x,(f x).length=s): ∀l:List α,(l.flatMap f).length=l.length*s
 | []=>sM
 | x::l=>by rw[zbh,zad,hf,BO hf l,zas,Nat.add_mul];omega
def Rp {α:Type} {f:α->LV} {good:α->Prop} {s:Nat} {e:Td} {r:Reach} {base:Nat} {d:DataW H} {ps:List MemPlace} (ht:P.underlying t=some (.slice e)) (hC:P.cellsOf e=s) (hf: ∀x,(f x).length=s)
    (hel: ∀n cs y,cs.length=s->DataW.trod enc P W 0 (λ_=>true) true n e cs=some y->∃x,cs=f x/\good x) (hv:Value.okWide P W r base t v) (h:DataW.Trod enc P W 0 (λ_=>true) true t v d ps):
    ∃A c,∃l:List α,v=.slice A l.length c/\l.length<=c/\c<=maxLen/\gY W A l.length s (l.flatMap f)/\∀x∈l,good x:=by
  obtain⟨a0,len0,cap0,rfl⟩:=okWide_slice ht hv;obtain⟨fuel,hfu⟩:=h
  rcases open_slice ht hfu with⟨h0,_⟩ | ⟨a,len,cap,m,n,D,Pl,hcs,_,hl,hm,hmm,_,hi⟩
  . have h0:[Value.slice a0 len0 cap0]=[.slice none 0 0]:=h0
    injection h0 with h0 _
    exact⟨none,0,[],h0,zbj _,zak _,gY.nil _ _ _,λ_ h=>by cases h⟩
  have hcs:[Value.slice a0 len0 cap0]=[.slice (some a) len cap]:=hcs;injection hcs with hcs _
  have Dn:m=cap:=by simpa using hmm
  subst Dn
  obtain⟨l,h1,h2⟩:=BM (α:=α) (Q:=λi x=>good x/\∀j u,(f x)[j]? =some u->W.cell? (a.add (i*s+j))=some u) len (λi hi'=>by
    obtain⟨cs',hc,ht'⟩:=hi i oM;rw[hC]at hc;obtain⟨_,UZ,hat⟩:=World.cells?_some hc;obtain⟨x,hx,hg⟩:=hel _ _ _ UZ ht';refine⟨x,hg,λj u hu=>?_⟩;have hj:j<s:=by rw[<-hf x];exact(zbb.1 hu).1
    have OE:=hat j hj;rw[<-Go.Deep.add_add,OE,hx];exact hu)
  subst h1;refine⟨some a,m,l,hcs,hl,hm,⟨BO hf l,λ_=>⟨a,rfl,λk u hk=>?_⟩⟩,λx hx=>?_⟩
  . obtain⟨i,j,x,hi',hj,rfl⟩:=BN hf l k u hk
    exact(h2 i x hi').2 j u hj
  obtain⟨i,hi'⟩:=List.mem_iff_getElem?.1 hx;exact(h2 i x hi').1
def nG {e:Td} {fs:Array Field} {base:Nat} {sp:Nat->Bool} {held:Bool} {cs:LV} {y:DataW H×List MemPlace} (he:P.underlying e=some (.struct fs)) (qy:oneCellFields P fs=true) (h:DataW.trod enc P W base sp held n e cs=some y) (_hC:P.cellsOf e=fs.size) (UZ:cs.length=fs.size):
    ∀(j:Nat) (fd:Field),fs[j]? =some fd->∃v y' n',cs[j]? =some v/\DataW.trod enc P W base sp held n' fd.type [v]=some y':=by
  obtain⟨ys,n',hn',hy,hlen,hyl,hf⟩:=DataW.trod_struct he h;intro j fd hj;obtain⟨ho,hk⟩:=hone_of qy j fd hj;have RN:j<fs.size:=(zcq.1 hj).1;have h1:=hf j fd hj;rw[ho,hk]at h1
  have hone':(cs.drop j).take 1=[cs[j]'oM]:=by
    rw[zbn oM];rfl
  rw[hone']at h1;have hys:ys[j]? =some (ys[j]'oM):=zaa oM;exact⟨_,_,_,zaa oM,h1.trans hys⟩
end
end Go.Proofs.Mw
