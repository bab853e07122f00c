/-
 Rules whose defaults do the plain steps of a walk:operations that give a value by themselves,and the ways between them.
-/
import Derived.Test.YtbfjonalkaophaaGreatDoorNk4
import Derived.ProofKit
import Derived.Deep.Fields
set_option linter.all false
namespace Go.Proofs.Mw
open Go.RowKit Go.ChangeShapes Go.WideShapes Go.Deep
open Go.ChangeMaps (setBlock)
variable {P:Program} {ρ:Od->Value} {ty:Td} {w w':Wd} {v:Value} {x y u:Od}
variable {T:Td}
def anl {o:BinOp} {U:Td} (h:ah P ρ (.binOp o T x y U) ty w v w'):ah P ρ (.binOp o T x y U) ty w v w':=h
def anm {U:Td} (h:ah P ρ (.binOp .eql T x y U) ty w v w'):ah P ρ (.binOp .eql T x y U) ty w v w':=h
def ano {U:Td} (h:ah P ρ (.binOp .neq T x y U) ty w v w'):ah P ρ (.binOp .neq T x y U) ty w v w':=h
def aj2 {s f:Nat} (h:ah P ρ (.fieldAddr s x f) ty w v w'):ah P ρ (.fieldAddr s x f) ty w v w':=h
def alv {b:Builtin} {x:Array Od} {t:Array Td} (h:ah P ρ (.call {callee:=.builtin b,args:=x,argTypes:=t}) ty w v w'):ah P ρ (.call {callee:=.builtin b,args:=x,argTypes:=t}) ty w v w':=h
variable {t:Td}
def alx {s:Td} (h:ah P ρ (.convert s t x) ty w v w'):ah P ρ (.convert s t x) ty w v w':=h
def aj3 {a b c:Option Od} (h:ah P ρ (.slice t x a b c) ty w v w'):ah P ρ (.slice t x a b c) ty w v w':=h
def aly (h:ah P ρ (.indexAddr t x y) ty w v w'):ah P ρ (.indexAddr t x y) ty w v w':=h
def iUn {o:UnOp} (h:ah P ρ (.unOp o T x) ty w v w'):ah P ρ (.unOp o T x) ty w v w':=h
def alz (h:ah P ρ (.pick u x y) ty w v w'):ah P ρ (.pick u x y) ty w v w':=h
variable {p:Prop}
def gq (h:p:=by first
 | exact ah.nilCheck rfl
 | (apply aj2;first | exact ah.yt rfl | exact ah.oO rfl (by assumption) oM | exact ah.field rfl | exact ah.af0 rfl)
 | exact ah.extract rfl rfl
 | (apply anl;first
  | (apply anm;first | exact ah.eql rfl rfl | exact ah.anf rfl rfl | exact ah.amS rfl rfl | exact ah.aja rfl rfl | exact ah.ah7 rfl rfl | exact ah.af2 rfl rfl)
  | (apply ano;first | exact ah.neq rfl rfl | exact ah.ang rfl rfl | exact ah.amT rfl rfl | exact ah.ajb rfl rfl)
  | exact ah.lss rfl rfl
  | exact ah.leq rfl rfl
  | exact ah.gtr rfl rfl
  | exact ah.geq rfl rfl
  | exact ah.Rz rfl rfl rfl oM
  | exact ah.ai8 rfl rfl rfl oM
  | exact ah.ai9 rfl rfl rfl oM
  | exact ah.anh rfl rfl
  | exact ah.Xk rfl rfl (by first | omega | (simp;done) | (simp;omega))
  | exact ah.add rfl rfl
  | exact ah.sub rfl rfl
  | exact ah.mul rfl rfl
  | exact ah.and rfl rfl
  | exact ah.or rfl rfl
  | exact ah.xor rfl rfl
  | exact ah.shl rfl rfl oM
  | exact ah.shr rfl rfl oM
  | exact ah.rem rfl rfl oM
  | exact ah.quo rfl rfl oM)
 | (apply alv;first | exact ah.ane rfl | exact ah.afl rfl | exact ah.min rfl rfl | exact ah.max rfl rfl)
 | (apply aly;first | exact ah.fT rfl rfl (by assumption) oM | exact ah.lI rfl rfl oM | exact ah.BD rfl rfl oM | exact ah.amZ rfl rfl (by assumption) (by first | exact At0 | exact At1) (by exact sz) oM)
 | (apply alz;first | exact ah.akO rfl rfl | exact ah.aiK rfl rfl | exact ah.pick rfl rfl rfl)
 | (apply iUn;first | exact ah.notP rfl | exact ah.not rfl | exact ah.neg rfl)
 | (apply alx;first | exact ah.alH rfl | exact ah.aiA rfl oM | exact ah.Uk rfl oM | exact ah.agP rfl oM | exact ah.af6 rfl | exact ah.conv rfl)
 | exact ah.zw rfl rfl oM
 | (apply aj3;first | exact ah.sliceTo rfl rfl oM | exact ah.sliceFrom rfl rfl oM | exact ah.qP rfl rfl oM | exact ah.qd rfl rfl oM | exact ah.acG rfl rfl rfl oM oM | exact ah.EA rfl rfl rfl oM oM | exact ah.afm rfl)
 | exact ah.Xl rfl rfl
 | exact ah.af7 rfl rfl
 | exact ah.aia rfl rfl oM rfl
 | exact ah.makeFunc rfl rfl
 | fail):p:=h
variable {r:Option Nat} {n d:Nat} {ops:AO} {Q:Post} {rest:LO} {σ:St} {pos:String} {after:Array Edge} {guard:Option (Nat×Bool)} {lv:List Bool} {pd:LNB} {op:Op}
def Vq (h:FL P r n ops Q rest (upd σ d v) w) (a:ah P (evF σ) op ty w v w:=by exact gq) (k:Nat.blt d n=true:=by exact rfl):FL P r n ops Q (⟨some d,op,ty,pos,after,none⟩::rest) σ w:=eu a k h
def sT {l:LNB} (h:l.all (λp=>p.2)=true:=by kernel_rfl):jK P ops σ w l:=by
 induction l with
 | nil=>trivial
 | cons p l k=>
  obtain⟨i,b⟩:=p;simp only[List.all_cons,zbr]at h;obtain⟨rfl,h⟩:=h;exact k h
def FGn (P:Program) (r:Option Nat) (n:Nat) (ops:AO) (Q:Post) (i:Nat) (lv:List Bool) (pd:LNB) (σ:St) (w:Wd):Prop:=lU ops lv (pd.map (·.1)) i=true->FG P r n ops Q lv pd σ w
def G0 {k:Nat} (h:FGn P r n ops Q 0 (List.replicate k false) pd σ w) (a:lU ops (List.replicate k false) (pd.map (·.1)) 0=true:=by decide+kernel):FG P r n ops Q (List.replicate k false) pd σ w:=h a
variable {j:Nat}
def GS (h:FGn P r n ops Q (j+1) (lv.set j true) pd σ w) (k:lU ops (lv.set j true) (pd.map (·.1)) (j+1)=true:=by decide+kernel):FG P r n ops Q (lv.set j true) pd σ w:=h k
variable {i:Nat}
def Gn {v:Value} (ho:ops[i]? =some ⟨some d,op,ty,pos,after,guard⟩) (e: ∀w,ah P (evF σ) op ty w v w) (h:FG P r n ops Q (lv.set i true) ((i,true)::pd) (upd σ d v) w) (a:eY n ops=true:=by assumption)
    (f:Region.wanted ⟨some d,op,ty,pos,after,guard⟩ (dG ops σ)=true:=by exact rfl):FGn P r n ops Q i lv pd σ w:=λk=>FGp a i ho f e k h
def Gt {v:Value} (f:ops[i]? =some ⟨some d,op,ty,pos,after,guard⟩) (e:ah P (evF σ) op ty w v w) (h:FG P r n ops Q (lv.set i true) ((i,false)::pd) (upd σ d v) w) (a:eY n ops=true:=by assumption)
    (j:Region.wanted ⟨some d,op,ty,pos,after,guard⟩ (dG ops σ)=true:=by exact rfl):FGn P r n ops Q i lv pd σ w:=λk=>FGl a i f j e k h
variable {w0:Wd} {S:NP} {rs:List HP}
def Gu {put:HP->List HP} {b o:Nat} [OneCell P T] {cs:LV} {E:Td} (f:ops[i]? =some ⟨some d,.load T x,ty,pos,after,guard⟩) (H:Sep w0 S rs w) (h:FG P r n ops Q (lv.set i true) ((i,false)::pd) (upd σ d v) w) (e:eY n ops=true:=by assumption)
    (m:Region.wanted ⟨some d,.load T x,ty,pos,after,guard⟩ (dG ops σ)=true:=by exact rfl) (q:evF σ x=.pointer (some ⟨b,o,none⟩):=by exact rfl)
    (k:At rs (blk b cs E) put:=by exact aT) (j:cs[o]? =some v:=by exact rfl):FGn P r n ops Q i lv pd σ w:=λa=>FGl e i f m (ah.nP q (H.obj k) j) a h
def Gw {put:HP->List HP} {b k:Nat} [Agg P T k] {cs:LV} {E:Td} (m:ops[i]? =some ⟨some d,.load T x,ty,pos,after,guard⟩) (H:Sep w0 S rs w) (h:FG P r n ops Q (lv.set i true) ((i,false)::pd) (upd σ d (.agg cs.toArray)) w) (f:eY n ops=true:=by assumption)
    (o:Region.wanted ⟨some d,.load T x,ty,pos,after,guard⟩ (dG ops σ)=true:=by exact rfl) (q:evF σ x=.pointer (some ⟨b,0,none⟩):=by exact rfl)
    (a:At rs (blk b cs E) put:=by exact aT) (j:cs.length=k:=by exact rfl):FGn P r n ops Q i lv pd σ w:=λe=>FGl f i m o (ah.JZ (us:=cs) q (H.obj a) (by rw[zdh,<-j,zbo]) j) e h
def Gv (f:ops[i]? =some ⟨some d,op,ty,pos,after,guard⟩) (a:eY n ops=true) (h:FG P r n ops Q (lv.set i true) ((i,true)::pd) (upd σ d v) w)
    (e: ∀w,ah P (evF σ) op ty w v w:=by intro w_;first | exact ah.move (by exact eV) | exact ah.assign rfl | exact gq | fail)
    (j:Region.wanted ⟨some d,op,ty,pos,after,guard⟩ (dG ops σ)=true:=by exact rfl):FGn P r n ops Q i lv pd σ w:=λk=>FGp a i f j e k h
def Go' (e:ops[i]? =some ⟨some d,op,ty,pos,after,guard⟩) (a:eY n ops=true) (h:FG P r n ops Q (lv.set i true) ((i,true)::pd) (upd σ d undef) w)
    (f:Region.wanted ⟨some d,op,ty,pos,after,guard⟩ (dG ops σ)=false:=by exact rfl):FGn P r n ops Q i lv pd σ w:=λk=>Qe a i e f k h
def Vc (c:Int) (h:FL P r n ops Q rest (upd σ d (.int .i64 c)) w) (a:ah P (evF σ) op ty w (.int .i64 c) w:=by first | exact ah.Rz rfl rfl oM oM | exact ah.ai8 rfl rfl oM oM | exact ah.ai9 rfl rfl oM oM) (k:Nat.blt d n=true:=by exact rfl):FL P r n ops Q (⟨some d,op,ty,pos,after,none⟩::rest) σ w:=eu a k h
def Gc (a:eY n ops=true) (i:Nat) (c:Int) (h:FG P r n ops Q (lv.set i true) ((i,true)::pd) (upd σ d (.int .i64 c)) w) (f:ops[i]? =some ⟨some d,op,ty,pos,after,guard⟩:=by exact rfl) (j:Region.wanted ⟨some d,op,ty,pos,after,guard⟩ (dG ops σ)=true:=by exact rfl)
    (e: ∀w,ah P (evF σ) op ty w (.int .i64 c) w:=by intro w_;first | exact ah.Rz rfl rfl oM oM | exact ah.ai8 rfl rfl oM oM | exact ah.ai9 rfl rfl oM oM) (k:lU ops lv (pd.map (·.1)) i=true:=by kernel_rfl):FG P r n ops Q lv pd σ w:=FGp a i f j e k h
def Vb (us:LV) (h:FL P r n ops Q rest (upd σ d (.agg us.toArray)) w) (a:ah P (evF σ) op ty w (.agg us.toArray) w:=by refine ah.build ?_;repeat (first | exact bQ.nil | refine bQ.one rfl rfl rfl sM rfl ?_ | refine bQ.many rfl rfl sM rfl ?_)) (k:Nat.blt d n=true:=by exact rfl):FL P r n ops Q (⟨some d,op,ty,pos,after,none⟩::rest) σ w:=eu a k h
def Gb (a:eY n ops=true) (i:Nat) (u:LV) (h:FG P r n ops Q (lv.set i true) ((i,true)::pd) (upd σ d (.agg u.toArray)) w) (f:ops[i]? =some ⟨some d,op,ty,pos,after,guard⟩:=by exact rfl) (j:Region.wanted ⟨some d,op,ty,pos,after,guard⟩ (dG ops σ)=true:=by exact rfl)
    (e: ∀w,ah P (evF σ) op ty w (.agg u.toArray) w:=by intro w_;refine ah.build ?_;repeat (first | exact bQ.nil | refine bQ.one rfl rfl rfl sM rfl ?_ | refine bQ.many rfl rfl sM rfl ?_)) (k:lU ops lv (pd.map (·.1)) i=true:=by kernel_rfl):FG P r n ops Q lv pd σ w:=FGp a i f j e k h
def Bs {t e k:Nat} {parts:List (Nat×Od)} {size C:Nat} [s:dR P t e] [q:Cells P e size C] {z:Value} [A:Zero P e z] (H:Sep w0 S rs w) (out:LV)
    (h: ∀b w',Sep w0 S (blk b out e::rs) w'->aS noB w w'->FL P r n ops Q rest (upd σ d (.slice (some ⟨b,0,none⟩) k k)) w') (j:(parts.map (·.2)).length=k:=by exact rfl)
    (a:dI (evF σ) size (parts.map (·.2)) out:=by repeat (first | exact dI.nil | refine dI.one rfl rfl ?_ | refine dI.many rfl rfl ?_)) (o:parts=((parts.map (·.2)).zipIdx 0).map λp=>(p.2,p.1):=by exact rfl) (m:Nat.ble (k*size) 16777216=true:=by exact rfl) (f:Nat.blt d n=true:=by exact rfl):
    FL P r n ops Q (⟨some d,.buildSlice t k parts.toArray,ty,pos,after,none⟩::rest) σ w:=by
  subst j;exact j5 H a o m f h
def Gz {t e k:Nat} {parts:List (Nat×Od)} {size K:Nat} [G:dR P t e] [F:Cells P e size K] {z:Value} [J:Zero P e z] (j:eY n ops=true) (i:Nat) (a:LNB) (H:Sep w0 S rs w) (out:LV)
    (A:ops[i]? =some ⟨some d,.buildSlice t k parts.toArray,ty,pos,after,guard⟩:=by exact rfl) (q:(parts.map (·.2)).length=k:=by exact rfl)
    (E:Region.wanted ⟨some d,.buildSlice t k parts.toArray,ty,pos,after,guard⟩ (dG ops σ)=true:=by kernel_rfl) (o:dI (evF σ) size (parts.map (·.2)) out:=by repeat (first | exact dI.nil | refine dI.one rfl rfl ?_ | refine dI.many rfl rfl ?_)) (C:parts=((parts.map (·.2)).zipIdx 0).map λp=>(p.2,p.1):=by exact rfl) (s:Nat.ble (k*size) 16777216=true:=by exact rfl)
    (f:gy ops lv (pd.map (·.1)) i=true:=by kernel_rfl) (m:pd.filter (λp=> !((above ops i).contains p.1))=a:=by exact pD)
    (h: ∀b w',Sep w0 S (blk b out e::rs) w'->jK P ops (upd σ d (.slice (some ⟨b,0,none⟩) k k)) w' a/\FG P r n ops Q (lv.set i true) a (upd σ d (.slice (some ⟨b,0,none⟩) k k)) w'):FG P r n ops Q lv pd σ w:=by
  subst q;exact TQ j i a H o A E C s f m h
def sL (h:p:=by repeat (first | exact dw | refine av ?_ | refine jG (by assumption) (h:=?_))):p:=h
variable {l:LO} {dst:Option Nat} {g:Nat×Bool} {c:Code} {z:Od} {T:Td}
def iFW (h:FW P r n c Q σ w):FW P r n c Q σ w:=h
def iFL (h:FL P r n ops Q l σ w):FL P r n ops Q l σ w:=h
def iFG (h:FG P r n ops Q lv pd σ w):FG P r n ops Q lv pd σ w:=h
def iMv (h:FL P r n ops Q (⟨some d,.move x,ty,pos,after,none⟩::rest) σ w):FL P r n ops Q (⟨some d,.move x,ty,pos,after,none⟩::rest) σ w:=h
def iAm (h:FL P r n ops Q (⟨some d,.assign x,ty,pos,after,none⟩::rest) σ w):FL P r n ops Q (⟨some d,.assign x,ty,pos,after,none⟩::rest) σ w:=h
def iLd (h:FL P r n ops Q (⟨some d,.load T x,ty,pos,after,none⟩::rest) σ w):FL P r n ops Q (⟨some d,.load T x,ty,pos,after,none⟩::rest) σ w:=h
def anp (h:FL P r n ops Q (⟨some d,op,ty,pos,after,none⟩::rest) σ w):FL P r n ops Q (⟨some d,op,ty,pos,after,none⟩::rest) σ w:=h
def iGd (h:FL P r n ops Q (⟨dst,op,ty,pos,after,some g⟩::rest) σ w):FL P r n ops Q (⟨dst,op,ty,pos,after,some g⟩::rest) σ w:=h
variable {c':Code}
def iCo (h:FW P r n (.cond x c c') Q σ w):FW P r n (.cond x c c') Q σ w:=h
def tb (h:p:=by first | with_reducible rfl | (simp only[Bool.not_true,Bool.not_false];done) | fail):p:=h
variable {b:Bool}
def On' {f:Bool} {t:Nat} (e:(ops[j]?).bind (λo:Oper=>o.dst)=some t) (a:σ t=.bool f) (h:FL P r n ops Q (⟨dst,op,ty,pos,after,none⟩::rest) σ w) (k:f=b:=by exact tb):FL P r n ops Q (⟨dst,op,ty,pos,after,some (j,b)⟩::rest) σ w:=aiJ e (by rw[a,k]) h
def Of' {m:Bool} {t:Nat} (f:(ops[j]?).bind (λo:Oper=>o.dst)=some t) (a:σ t=.bool m) (h:FL P r n ops Q rest (rY σ dst undef) w) (k:(!m)=b:=by exact tb) (e:OY n dst=true:=by exact rfl):FL P r n ops Q (⟨dst,op,ty,pos,after,some (j,b)⟩::rest) σ w:=ai7 f (by rw[a,<-k,Bool.not_not]) e h
def Ct {t:Bool} (a:evF σ x=.bool t) (h:FW P r n c Q σ w) (k:t=true:=by exact tb):FW P r n (.cond x c c') Q σ w:=fC (by rw[a,k]) h
def Cf {t:Bool} (a:evF σ x=.bool t) (h:FW P r n c' Q σ w) (k:t=false:=by exact tb):FW P r n (.cond x c c') Q σ w:=DF (by rw[a,k]) h
variable {q:Prop}
def aB (k:p) (h:p->q:=by intro c;first | exact zas rfl c | exact(c trivial).elim | exact zas c dC | exact zas c sM | omega | fail):q:=h k
structure Bx (q:Prop):Prop where
 g:q
def Xs (k:q) (h:Bx q->p:=by
 intro h
 first
 | (apply iFL;first
  | (apply iMv;refine Mv ?_)
  | (apply iAm;refine Am ?_)
  | (apply iLd;first
   | refine Ld (by assumption) ?_
   | refine gF (by assumption) (h:=?_)
   | refine eu (ah.dY rfl (by assumption) (by assumption) (by assumption) rfl) rfl ?_
   | refine eu (ah.Ce rfl (by assumption) (by assumption) (by assumption) rfl) rfl ?_
   | refine eu (ah.iT rfl (by assumption) (by assumption) (by assumption)) rfl ?_)
  | (apply anp;refine Vq ?_))
 | (apply iFG;(first | refine GS ?_ | refine G0 ?_);(first | refine Gv rfl (by assumption) ?_ | refine Gu rfl (by assumption) ?_ | refine Gw rfl (by assumption) ?_ | refine Gt rfl (ah.dY rfl (by assumption) (by assumption) (by assumption) rfl) ?_ | refine Gt rfl (ah.Ce rfl (by assumption) (by assumption) (by assumption) rfl) ?_ | refine Gt rfl (ah.iT rfl (by assumption) (by assumption) (by assumption)) ?_ | refine Gt rfl (ah.alb rfl (by assumption) (by first | exact At0 | exact At1) (by exact sz) oM) ?_))
 exact h.g):p:=h ⟨k⟩
def Xg (k:q) (h:Bx q->p:=by
 intro h
 repeat (first
 | (apply iFL;first
  | refine yj ?_
  | (apply iGd;first | refine On' rfl rfl ?_ | refine Of' rfl rfl ?_ | refine ah6 rfl rfl rfl ?_))
 | (apply iFW;first
  | refine zG ?_
  | refine Gs ?_
  | refine rZ ?_
  | refine aai ?_
  | (apply iCo;first | refine Ct rfl ?_ | refine Cf rfl ?_)
  | refine Lu ?_
  | refine K3 ?_
  | refine FW_scope ?_)
 | (apply iFG;first
  | refine fZ (by assumption) (by decide+kernel) ?_
  | ((first | refine GS ?_ | refine G0 ?_);refine Go' rfl (by assumption) ?_))
 | refine ig ?_
 | refine xC ?_
 | refine ER ?_
 | refine Cn ?_
 | refine uR ?_
 | refine Co ?_
 | refine Rx rfl ?_
 | refine XP ?_
 | refine xD ?_
 | refine aea ?_
 | refine abm ?_
 | refine agC (h:=?_)
 | refine Xv (h:=?_)
 | refine ahd (hR:=?_)
 | refine XQ (hR:=?_)
 | refine Qscope_normal ?_
 | refine Qscope_ret ?_)
 exact h.g):p:=h ⟨k⟩
def Lp {p q:Prop} (k:q) (h:Bx q->p:=by intro h;(try simp only[Ur,like,ai5,ai6]);exact h.g):p:=h ⟨k⟩
def O1 (k:q) (h:Bx q->p:=by intro h;(iterate 1 (first | refine Xs ?_ | (refine Xg ?_;refine Xs ?_)));exact h.g):p:=h ⟨k⟩
def V1 {p q:Prop} (k:q) (h:Bx q->p:=by intro h;(iterate 1 (first | refine Xs ?_ | (refine Xg ?_;refine Xs ?_)));refine Xg ?_;exact h.g):p:=h ⟨k⟩
def O2 (k:q) (h:Bx q->p:=by intro h;(iterate 2 (first | refine Xs ?_ | (refine Xg ?_;refine Xs ?_)));exact h.g):p:=h ⟨k⟩
def V2 {p q:Prop} (k:q) (h:Bx q->p:=by intro h;(iterate 2 (first | refine Xs ?_ | (refine Xg ?_;refine Xs ?_)));refine Xg ?_;exact h.g):p:=h ⟨k⟩
def O3 (k:q) (h:Bx q->p:=by intro h;(iterate 3 (first | refine Xs ?_ | (refine Xg ?_;refine Xs ?_)));exact h.g):p:=h ⟨k⟩
def V3 {p q:Prop} (k:q) (h:Bx q->p:=by intro h;(iterate 3 (first | refine Xs ?_ | (refine Xg ?_;refine Xs ?_)));refine Xg ?_;exact h.g):p:=h ⟨k⟩
def O4 (k:q) (h:Bx q->p:=by intro h;(iterate 4 (first | refine Xs ?_ | (refine Xg ?_;refine Xs ?_)));exact h.g):p:=h ⟨k⟩
def V4 (k:q) (h:Bx q->p:=by intro h;(iterate 4 (first | refine Xs ?_ | (refine Xg ?_;refine Xs ?_)));refine Xg ?_;exact h.g):p:=h ⟨k⟩
def O5 (k:q) (h:Bx q->p:=by intro h;(iterate 5 (first | refine Xs ?_ | (refine Xg ?_;refine Xs ?_)));exact h.g):p:=h ⟨k⟩
def V5 {p q:Prop} (k:q) (h:Bx q->p:=by intro h;(iterate 5 (first | refine Xs ?_ | (refine Xg ?_;refine Xs ?_)));refine Xg ?_;exact h.g):p:=h ⟨k⟩
def O6 (k:q) (h:Bx q->p:=by intro h;(iterate 6 (first | refine Xs ?_ | (refine Xg ?_;refine Xs ?_)));exact h.g):p:=h ⟨k⟩
def V6 {p q:Prop} (k:q) (h:Bx q->p:=by intro h;(iterate 6 (first | refine Xs ?_ | (refine Xg ?_;refine Xs ?_)));refine Xg ?_;exact h.g):p:=h ⟨k⟩
def O7 (k:q) (h:Bx q->p:=by intro h;(iterate 7 (first | refine Xs ?_ | (refine Xg ?_;refine Xs ?_)));exact h.g):p:=h ⟨k⟩
def V7 (k:q) (h:Bx q->p:=by intro h;(iterate 7 (first | refine Xs ?_ | (refine Xg ?_;refine Xs ?_)));refine Xg ?_;exact h.g):p:=h ⟨k⟩
def V8 (k:q) (h:Bx q->p:=by intro h;(iterate 8 (first | refine Xs ?_ | (refine Xg ?_;refine Xs ?_)));refine Xg ?_;exact h.g):p:=h ⟨k⟩
def O9 (k:q) (h:Bx q->p:=by intro h;(iterate 9 (first | refine Xs ?_ | (refine Xg ?_;refine Xs ?_)));exact h.g):p:=h ⟨k⟩
def V9 (k:q) (h:Bx q->p:=by intro h;(iterate 9 (first | refine Xs ?_ | (refine Xg ?_;refine Xs ?_)));refine Xg ?_;exact h.g):p:=h ⟨k⟩
def O10 (k:q) (h:Bx q->p:=by intro h;(iterate 10 (first | refine Xs ?_ | (refine Xg ?_;refine Xs ?_)));exact h.g):p:=h ⟨k⟩
def V10 (k:q) (h:Bx q->p:=by intro h;(iterate 10 (first | refine Xs ?_ | (refine Xg ?_;refine Xs ?_)));refine Xg ?_;exact h.g):p:=h ⟨k⟩
def O11 (k:q) (h:Bx q->p:=by intro h;(iterate 11 (first | refine Xs ?_ | (refine Xg ?_;refine Xs ?_)));exact h.g):p:=h ⟨k⟩
def V12 (k:q) (h:Bx q->p:=by intro h;(iterate 12 (first | refine Xs ?_ | (refine Xg ?_;refine Xs ?_)));refine Xg ?_;exact h.g):p:=h ⟨k⟩
def V13 (k:q) (h:Bx q->p:=by intro h;(iterate 13 (first | refine Xs ?_ | (refine Xg ?_;refine Xs ?_)));refine Xg ?_;exact h.g):p:=h ⟨k⟩
def V14 (k:q) (h:Bx q->p:=by intro h;(iterate 14 (first | refine Xs ?_ | (refine Xg ?_;refine Xs ?_)));refine Xg ?_;exact h.g):p:=h ⟨k⟩
def V15 (k:q) (h:Bx q->p:=by intro h;(iterate 15 (first | refine Xs ?_ | (refine Xg ?_;refine Xs ?_)));refine Xg ?_;exact h.g):p:=h ⟨k⟩
def V0 {p q:Prop} (k:q) (h:Bx q->p:=by intro h;refine Xg ?_;exact h.g):p:=h ⟨k⟩
def Zz (k:q) (h:Bx q->p:=by intro h;(repeat (first | refine Xs ?_ | (refine Xg ?_;refine Xs ?_)));refine Xg ?_;exact h.g):p:=h ⟨k⟩
def zP (h:Bx q->p:=by intro h;refine Zz ?_;exact h.g):Bx q->p:=h
section
variable {p:Prop} {P:Program} {r:Option Nat} {n:Nat} {ops:AO} {Q:Post} {rest l:LO} {σ:St} {w:Wd} {ty:Td} {pos:String} {after:Array Edge} {w0:Wd} {S:NP} {rs:List HP} {put:HP->List HP} {d t:Nat}
def Cz {e:Prop} [Decidable e] {c:Od} {x y:Code} (a:e->FW P r n x Q σ w) (k: ¬e->FW P r n y Q σ w) (z:Bx (FW P r n (.cond c x y) Q σ w)->p:=by exact zP) (h:evF σ c=.bool (decide e):=by exact rfl):p:=z ⟨aeb h a k⟩
def Sz {f:Prop} [Decidable f] (k:f->FL P r n ops Q (⟨dst,op,ty,pos,after,some (j,b)⟩::rest) (upd σ t (.bool true)) w) (h: ¬f->FL P r n ops Q (⟨dst,op,ty,pos,after,some (j,b)⟩::rest) (upd σ t (.bool false)) w)
    (z:Bx (FL P r n ops Q (⟨dst,op,ty,pos,after,some (j,b)⟩::rest) σ w)->p:=by exact zP) (e:(ops[j]?).bind (λo:Oper=>o.dst)=some t:=by exact rfl) (a:σ.get t=.bool (decide f):=by exact rfl):p:=z ⟨adj a k h⟩
def Kz {f:FuncId} {x:List Od} {m:Array Td} {vals:LV} (k:Rk P f vals w v) (h: ∀w',Sep w0 S rs w'->aS noB w w'->FL P r n ops Q rest (upd σ d v) w')
    (z:Bx (FL P r n ops Q (⟨some d,.call {callee:=.value (.func f),args:=x.toArray,argTypes:=m},ty,pos,after,none⟩::rest) σ w)->p:=by exact zP) (H:Sep w0 S rs w:=by assumption) (e:x.map (evF σ)=vals:=by exact rfl) (a:Nat.blt d n=true:=by exact rfl) (he:qB P f:=by exact eT):p:=z ⟨Wv H k e a h⟩
def Nz {f:FuncId} {xs:List Od} {m:Array Td} {vals:LV} {o:Type} {val:o->Value} {s:o->Prop} {q:o->HP} (k:aX P f vals w λv w'=>∃x,v=val x/\s x/\cO noB (q x) w w') (h: ∀x w',s x->Sep w0 S (q x::rs) w'->aS noB w w'->FL P r n ops Q rest (upd σ d (val x)) w')
    (z:Bx (FL P r n ops Q (⟨some d,.call {callee:=.value (.func f),args:=xs.toArray,argTypes:=m},ty,pos,after,none⟩::rest) σ w)->p:=by exact zP) (H:Sep w0 S rs w:=by assumption) (e:xs.map (evF σ)=vals:=by exact rfl) (a:Nat.blt d n=true:=by exact rfl) (j:qB P f:=by exact eT):p:=z ⟨F5 H k e a h⟩
def Az {f:Value} [e:Zero P T f] {cs:LV} (h: ∀b w',Sep w0 S (blk b cs T::rs) w'->aS noB w w'->FL P r n ops Q rest (upd σ d (.pointer (some ⟨b,0,none⟩))) w') (z:Bx (FL P r n ops Q (⟨some d,.alloc T,ty,pos,after,none⟩::rest) σ w)->p:=by exact zP)
    (H:Sep w0 S rs w:=by assumption) (k:f.cells=cs.toArray:=by exact rfl) (a:Nat.blt d n=true:=by exact rfl):p:=z ⟨MR H k a h⟩
def Uz {b o:Nat} [q:OneCell P T] {cs c:LV} {E:Td} (h: ∀w',Sep w0 S (put (blk b c E)) w'->FL P r n ops Q rest σ w') (z:Bx (FL P r n ops Q (⟨none,.store T x y,ty,pos,after,none⟩::rest) σ w)->p:=by exact zP)
    (H:Sep w0 S rs w:=by assumption) (j:evF σ x=.pointer (some ⟨b,o,none⟩):=by exact rfl) (m:evF σ y=v:=by exact eV) (f:v.oneCell'=true:=by exact rfl)
    (k:At rs (blk b cs E) put:=by exact aT) (a:Nat.blt o cs.length=true:=by exact rfl) (e:cs.set o v=c:=by first | (simp only[zcz,zfr];rfl) | exact rfl):p:=z ⟨sO H j m f k a e h⟩
def Dz {id:Nat} {l:LO} (h:eY n l.toArray=true->∀w',Sep w0 S rs w'->FG P r n l.toArray Q (List.replicate l.length false) [] σ w') (z:Bx (FW P r n (.region id l.toArray true) Q σ w)->p:=by exact zP) (H:Sep w0 S rs w:=by assumption) (a:P.follows .mixedOrders=true:=by exact rfl) (k:eY n l.toArray=true:=by kernel_rfl):p:=z ⟨aga a H k h⟩
end
variable {R:Value->Wd->Prop}
section
variable {P:Program} {r:Option Nat} {n:Nat} {ops:AO} {Q:Post} {rest:LO} {σ:St} {w w0:Wd} {S:NP} {rs:List HP} {put:HP->List HP} {ty:Td} {pos:String} {after:Array Edge}
theorem QZ {α:Type} {g:Od} {p:Tmp} {assign body:Code} {gf:FuncId} {lb:LV} (enc:α->Value) (M:List α) (J:List α->HP) (L:List α->α->HP) (o:List HP) (H:Sep w0 S (J []::o) w)
    (hg:evF σ g=.func (.func gf) #[] lb.toArray) (hp:Nat.blt p n=true)
    (A: ∀(l D:Nat) (ro z:Obj) (pre:List α) (x:α) (Fr:List HP) (W:Wd),pre++[x]<+:M->Sep w0 S (obj l ro::obj D (.deferred (some []))::J pre::Fr) W->
      FW P (some l) n assign (Lg λτ q=>∃ex:List HP,Sep w0 S (obj l ro::obj D (.deferred (some []))::(ex++J pre::Fr)) q/\
        ∀O,Sep w0 S (obj l z::obj D (.deferred (some []))::(ex++J pre::Fr)) O->FW P (some l) n body (Zu (λc=>Sep w0 S (obj l z::obj D (.deferred (some []))::J (pre++[x])::Fr) c) (λc=>Sep w0 S [obj l z,obj D (.deferred (some [])),L pre x] c)) τ O) (upd ⟨σ.get,[]⟩ p (enc x)) W)
    (E: ∀(l D:Nat) (ro rj:Obj) (W:Wd),Sep w0 S (obj l ro::obj D (.deferred (some []))::J []::o) W->
      (∀(pre:List α) (x:α) (Fr:List HP) (W:Wd),pre++[x]<+:M->Sep w0 S (obj l ro::obj D (.deferred (some []))::J pre::Fr) W->TR P l [enc x] W λb q=>if b=true then Sep w0 S (obj l ro::obj D (.deferred (some []))::J (pre++[x])::Fr) q else Sep w0 S [obj l rj,obj D (.deferred (some [])),L pre x] q)->
      aX P gf (.func (.yield l) #[] #[]::lb) W λ_ q=>Sep w0 S [obj l ro,obj D (.deferred (some [])),J M] q\/∃pre x,pre++[x]<+:M/\Sep w0 S [obj l rj,obj D (.deferred (some [])),L pre x] q)
    (C: ∀(D:Nat) (W:Wd),Sep w0 S [obj D (.deferred (some [])),J M] W->Q .normal ⟨σ.get,{target:=.collected D,args:= #[]}::σ.ds⟩ W)
    (K: ∀(D:Nat) (W:Wd) (pre:List α) (x:α),pre++[x]<+:M->Sep w0 S [obj D (.deferred (some [])),L pre x] W->Q .ret ⟨σ.get,{target:=.collected D,args:= #[]}::σ.ds⟩ W) (he:qB P gf:=by exact eT):
    FW P none n (.rangeFunc g #[p] assign body) Q σ w:=by
  intro a j;refine wpIn_rangeFunc λfn hfn=>?_
  let r:LoopState->Obj:=λst=>aa2 st fn a.tmps #[p] assign body w.heap.size
  let Z:Obj:=.loop {state:=.done,pending:=some .ret,fn:=fn,tmps:=a.tmps,params:= #[p],assign:=assign,body:=body,defers:=w.heap.size}
  obtain⟨s,V⟩: ∃s,(w.alloc (.deferred (some []))).alloc (r .ready)=s:=⟨_,rfl⟩
  have H1:Sep w0 S (obj (w.heap.size+1) (r .ready)::obj w.heap.size (.deferred (some []))::J []::o) s:=by
    have d:=(H.alloc (.deferred (some []))).alloc (r .ready);rw[World.size_alloc]at d;rw[<-V];exact d
  refine⟨w.heap.size+1,[{target:=.collected w.heap.size,args:= #[]}],s,{target:=.fn (.func gf) lb.toArray,args:= #[.func (.yield (w.heap.size+1)) #[] #[]]},s,gf,
    #[.func (.yield (w.heap.size+1)) #[] #[]]++lb.toArray,s,?_,?_,λ_ _=>trivial,?_,(λh=>by cases h),?_⟩
  . rw[<-V];exact run_enterLoop_outer _ _ _ _ _
  . rw[j.eval]
    simp only[resolve,hg,Deferred.ofValue];simp[evF]
  . simp[invoke,he.run]
  have Y:=E (w.heap.size+1) w.heap.size (r .ready) Z s H1 (λpre x Fr W k T=>?_)
  . have e:(#[.func (.yield (w.heap.size+1)) #[] #[]]++lb.toArray:Array Value)=(Value.func (.yield (w.heap.size+1)) #[] #[]::lb).toArray:=sM
    rw[e];refine rC none (Calls.mono Y λR c m=>?_);cases R with
    | returned v=>
      rcases m with m | ⟨pre,x,k,m⟩
      . have X:=Sep.obj m At0
        refine⟨none,_,run_endLoop X sM,?_⟩;refine⟨⟨σ.get,{target:=.collected w.heap.size,args:= #[]}::σ.ds⟩,⟨j.size,?_,j.get⟩,C w.heap.size _ ?_⟩
        . show [_]++a.defers=_
          rw[j.defers];rfl
        exact(Sep.Xj m).bN
      have X:=Sep.obj m At0;refine⟨some .ret,_,run_endLoop X sM,?_⟩;refine wpIn_ret ⟨⟨σ.get,{target:=.collected w.heap.size,args:= #[]}::σ.ds⟩,⟨j.size,?_,j.get⟩,K w.heap.size _ pre x k ?_⟩
      . show [_]++a.defers=_
        rw[j.defers];rfl
      exact(Sep.Xj m).bN
    | _=>exact m.elim

  have X:=Sep.obj T At0;refine⟨fn,_,assign,body,run_yield X sM,?_⟩;refine roundIn_of_wpIn (F:=fen none) trivial ?_;have hb:=A (w.heap.size+1) w.heap.size (r .ready) (r .busy) pre x Fr W k T
  have i:Rep n (upd ⟨σ.get,[]⟩ p (enc x)) {tmps:=((#[p].zip [enc x].toArray).foldl (λtmps (t,a)=>tmps.setIfInBounds t a) a.tmps),defers:=[]}:=by
    have h0:Rep n ⟨σ.get,[]⟩ {tmps:=a.tmps,defers:=[]}:=⟨j.size,rfl,j.get⟩;have d:=h0.put (zbd hp) (enc x);simpa[Act.put]using d
  refine Go.wpIn_mono (hb _ i) λR a1 W1' ⟨τ,y,hq⟩=>?_;cases R with
  | normal=>
    obtain⟨ex,N,hB⟩:=hq;have u:=Sep.obj N At0;refine⟨_,run_beginRound u rfl,?_⟩;refine Go.wpIn_mono (hB _ (Sep.Xj N) a1 y) λR a2 W2 ⟨τ2,hτ2,f⟩=>?_;cases R with
    | normal=>
      have G:=Sep.obj (show Sep w0 S _ W2 from f) At0;exact⟨_,_,run_endRound none G,true,rfl,by show ite (true=true) _ _;rw[zac rfl];exact Sep.Xj f⟩
    | ret=>
      have G:=Sep.obj (show Sep w0 S _ W2 from f) At0;exact⟨_,_,run_endRound (some .ret) G,false,rfl,by show ite (false=true) _ _;rw[zab dC];exact Sep.Xj f⟩
    | _=>exact f.elim
  | _=>exact hq.elim
def tT {f:Func} {t:Array Value} {R:Ending->Wd->Prop}: ∀(ds:List Deferred) (w:Wd),Goes ds w (λw'=>∃v,(results f t).run P w'=.ok v w'/\R (.returned v) w')->LeavesInM (fen none) 0 P f t R ds .returning w
 | [],w,⟨v,hr,h⟩=>⟨v,hr,h⟩
 | d::ds,w,⟨D,ht,hh,hg⟩=>⟨(λe=>by cases e),.inl ⟨D,_,ht,run_takeDeferred hh,tT ds _ hg⟩⟩
def goes_mono {R a:Wd->Prop} (h: ∀w,R w->a w): ∀{ds:List Deferred} {w:Wd},Goes ds w R->Goes ds w a
 | [],_,hg=>h _ hg
 | _::_,_,⟨D,ht,hh,hg⟩=>⟨D,ht,hh,goes_mono h hg⟩
def aj4 (P:Program) (l:List ResultVar) (R:Value->Wd->Prop):Post:=λe σ w=>match e with
 | .normal | .ret=>Goes σ.ds w λw'=>∃vs,qV P σ w' l vs/\R (fU vs) w'
 | _=>False
def Ga {l:List ResultVar} (h: ∃v,qV P σ w l v/\R (fU v) w) (k:σ.ds=[]:=by exact rfl):aj4 P l R .ret σ w:=by
 show Goes σ.ds w _
 rw[k];exact h
def zA {l:List ResultVar} {D:Nat} (H:Sep w0 S rs w) (h:At rs (Mw.obj D (.deferred (some []))) put) (hR: ∀w',Sep w0 S (put (Mw.obj D (.deferred none))) w'->∃v,qV P σ w' l v/\R (fU v) w')
    (m:σ.ds=[{target:=.collected D,args:= #[]}]:=by exact rfl):aj4 P l R .ret σ w:=by
  show Goes σ.ds w _
  rw[m];have f:=H.obj h;have a:=lq f;exact⟨D,rfl,f,hR _ (H.setObj h ⟨rfl,rfl,rfl,sM,λk _ j=>by simp only;rw[zff (λe=>j e.symm)]⟩ (by simp[a]))⟩
def agD {f:FuncId} {F:Func} {l:List ResultVar} {E:Value}
    (A:P.funcs[f]? =some F) (h:FW P none n c (aj4 P l R) (upd und 0 E) w) (q:FnB F c n l 1:=by exact⟨rfl,rfl,rfl,rfl⟩):aX P f [E] w R:=
  ES (args:=[E]) A q.x q.y q.u (λe s a w' o m=>by
    cases e with
    | normal=>exact⟨.inl rfl,tT _ _ (goes_mono (λC ⟨v,k,j⟩=>⟨_,uH o.get q.z k,j⟩) m)⟩
    | ret=>exact⟨.inr rfl,tT _ _ (goes_mono (λC ⟨v,k,j⟩=>⟨_,uH o.get q.z k,j⟩) m)⟩
    | _=>exact m.elim) h
end
abbrev Ent:=L8×Value
def mW (D:List Ent) (k:L8):Option Value:=(D.find? λp=>p.1==k).map (·.2)
def Bc (D:List Ent) (k:L8) (v:Value):List Ent:=if(mW D k).isSome=true then D.map (λp=>if p.1=k then(k,v)else p)else D++[(k,v)]
def Xw (D:List Ent) (k:L8):List Ent:=D.filter λp=> !(p.1==k)
def alA:Value->L8
 | .string a=>a.data.toList
 | _=>[]
def kvE (e:MapEntry):Ent:=(alA e.key,e.val)
structure NJ (es:List MapEntry) (clock:Nat) (D:List Ent):Prop where
 keys:oL es
 data:es.map kvE=D
 nd:(D.map (·.1)).Nodup
 born:(es.map (·.born)).Nodup
 old: ∀e∈es,e.born<clock
def NK {e:MapEntry} {k:L8} (h: ∃a,e.key=.string a):jy ⟨k.toArray⟩ e=((kvE e).1==k):=by
 obtain⟨a,f⟩:=h;unfold jy kvE;rw[f];show(a==⟨k.toArray⟩)=(a.data.toList==k)
 rw[NI,zdx];simp only[beq_iff_eq];constructor
 .intro h;rw[h]
 intro h;rw[<-h]
def Ll {k:L8}: ∀{es:List MapEntry},oL es->pE es ⟨k.toArray⟩=mW (es.map kvE) k
 | [],_=>rfl
 | e::es,h=>by
  have i:=Ll (k:=k) (es:=es) λx f=>h x (zap _ f);have a:=NK (k:=k) (h e zak);unfold pE mW at i ⊢;rw[zbc,zcm,zcm,a];cases hb:(kvE e).1==k with
  | true=>rfl
  | false=>exact i
variable {k:L8} {D:List Ent}
def Dp:mW D k=none↔k∉D.map (·.1):=by
 unfold mW;rw[zfp,zfb];constructor
 .intro h f
  obtain⟨p,a,rfl⟩:=zav.1 f;exact h p a (beq_self_eq_true _)
 intro h p a e;exact h (zav.2 ⟨p,a,eq_of_beq e⟩)
def agE (h:mW D k=some v):(k,v)∈D:=by
 unfold mW at h;obtain⟨p,a,rfl⟩:=zbb.1 h;have e:=zek a;have f:=List.find?_some a;rw[<-eq_of_beq f];exact e
def adz:(Bc D k v).map (·.1)=if k∈D.map (·.1)then D.map (·.1)else D.map (·.1)++[k]:=by
  unfold Bc
  by_cases h:k∈D.map (·.1)
  . have a:(mW D k).isSome=true:=by
      rw[Option.isSome_iff_ne_none];exact λe=>Dp.1 e h
    rw[zac a,zac h,zdn];refine zcu λp _=>?_;show(if p.1=k then(k,v)else p).1=p.1
    split
    . rename_i e;exact e.symm
    rfl
  have a: ¬(mW D k).isSome=true:=by
    rw[Dp.2 h];simp
  rw[zab a,zab h,zan];rfl
def abb (h:(D.map (·.1)).Nodup):((Bc D k v).map (·.1)).Nodup:=by
 rw[adz]
 split
 .exact h
 rename_i m;rw[zet];exact⟨h,sM,λa j b f e=>by rw[zaw]at f;subst f;subst e;exact m j⟩
def agF {i:L8}:mW (Bc D k v) i=if i=k then some v else mW D i:=by
 unfold Bc
 by_cases h:(mW D k).isSome=true
 .rw[zac h]
  by_cases hi:i=k
  .subst hi
   rw[zac rfl]
   induction D with
   | nil=>cases h
   | cons p D f=>
    unfold mW at h f ⊢;rw[zbc,zcm]
    by_cases a:p.1=i
    .rw[zac a];simp
    rw[zab a,show(p.1==i)=false from beq_eq_false_iff_ne.2 a];rw[zcm,show(p.1==i)=false from beq_eq_false_iff_ne.2 a]at h;exact f h
  rw[zab hi];clear h
  induction D with
  | nil=>rfl
  | cons p D f=>
   unfold mW at f ⊢;rw[zbc,zcm,zcm]
   by_cases a:p.1=k
   .rw[zac a,show((k,v).1==i)=false from beq_eq_false_iff_ne.2 λe=>hi e.symm,show(p.1==i)=false from beq_eq_false_iff_ne.2 λe=>hi (e.symm.trans a)]
    exact f
   rw[zab a];cases p.1==i with
   | true=>rfl
   | false=>exact f
 rw[zab h];have j:mW D k=none:=by simpa using h
 unfold mW at j ⊢;rw[List.find?_append]
 by_cases hi:i=k
 .subst hi
  rw[zac rfl];rw[zfp]at j;rw[j];simp
 rw[zab hi]
 have :([(k,v)]:List Ent).find? (λp=>p.1==i)=none:=by
  rw[zcm,show((k,v).1==i)=false from beq_eq_false_iff_ne.2 λe=>hi e.symm];rfl
 rw[this,Option.or_none]
def ait (h:(D.map (·.1)).Nodup):((Xw D k).map (·.1)).Nodup:=h.sublist (List.filter_sublist.map _)
def iD (b:Nat) (D:List Ent):HP:=exH λx:Array MapEntry×Nat=>dx (obj b (.map x.1 x.2)) (jH (NJ x.1.toList x.2 D))
section
variable {w0 w w':Wd} {S:NP} {rs:List HP} {put:HP->List HP} {P:Program} {D:List Ent} {b:Nat}
def Dq {F:NP}:(iD b D).ok F w↔(∀x,F x↔x=b)/\∃e clock,w.heap[b]? =some (.map e clock)/\NJ e.toList clock D:=by
 constructor
 .rintro⟨⟨e,c⟩,o,q,m,s,⟨k,a⟩,⟨f,j⟩⟩
  refine⟨λx=>?_,e,c,a,f⟩;rw[m,k];exact⟨λh=>h.elim id λh=>(j x h).elim,.inl⟩
 rintro⟨k,e,c,a,f⟩;exact⟨⟨e,c⟩,F,λ_=>False,λx=>sM,λ_ _ h=>h,⟨k,a⟩,⟨f,λ_ h=>h⟩⟩
def Sep.Uc (h:Sep w0 S rs w) (k:At rs (iD b D) put): ∃e clock,w.heap[b]? =some (.map e clock)/\NJ e.toList clock D:=by
 obtain⟨F,a,_,_⟩:=h.bG k;exact(Dq.1 a).2
def Sep.Ud (h:Sep w0 S rs w) (k:At rs (Mw.obj b (Obj.map #[] 0)) put):Sep w0 S (put (iD b [])) w:=
 h.imp k λF a=>Dq.2 ⟨a.1, #[],0,a.2,⟨by simp[oL],rfl,sM,sM,sM⟩⟩
def Sep.alB (h:Sep w0 S rs w) (k:At rs (iD b D) put):(D.map (·.1)).Nodup:=by
 obtain⟨e,c,_,a⟩:=h.Uc k;exact a.nd
def nZ {k e:Td} [s:IsMap P T k e] [q:mD P k] {z:Value} [A:Zero P e z] {i:L8}
    (H:Sep w0 S rs w) (a:At rs (iD b D) put) (j:ρ x=.map (some b)) (m:ρ y=str i):ah P ρ (.lookup T x y false) ty w ((mW D i).getD z) w:=by
  obtain⟨o,c,f,h⟩:=H.Uc a;have:=BR (P:=P) (ty:=ty) (T:=T) (i:=⟨i.toArray⟩) f h.keys (λ_=>rfl) j m;rw[Ll h.keys,h.data]at this;exact this
def Sep.Ue {J:List Ent} {s:Array MapEntry} {c':Nat} (H:Sep w0 S rs w) (m:At rs (iD b D) put) (h:NJ s.toList c' J):Sep w0 S (put (iD b J)) {w with heap:=w.heap.setIfInBounds b (.map s c')}:=by
  obtain⟨F,C,_,a⟩:=H.bG m;obtain⟨q,E,c,o,A⟩:=Dq.1 C;have k:=lq o
  exact a _ F _ ⟨rfl,rfl,rfl,sM,λj G f=>by simp only[zbz];rw[zab (λe=>f ((q j).2 e.symm))]⟩
      (Dq.2 ⟨q,s,c',by simp[k],h⟩) λb o=>.inl o
def adA (k:L8) (v:Value): ∀(a:List MapEntry) (j:Nat) (e:MapEntry),a[j]? =some e->(kvE e).1=k->((a.map kvE).map (·.1)).Nodup->
    (a.modify j λe=>{e with key:=str k,val:=v}).map kvE=(a.map kvE).map λp=>if p.1=k then(k,v)else p:=by
  intro a
  induction a with
  | nil=>intro j e h;simp at h
  | cons x a i=>
    intro j e o f s;rw[zbc,zbc,zfg]at s;cases j with
    | zero=>
      simp at o;subst o;rw[List.modify_zero_cons,zbc,zbc,zbc,zac f]
      have m:(a.map kvE).map (λp=>if p.1=k then(k,v)else p)=a.map kvE:=by
        conv=>rhs;rw[<-List.map_id (a.map kvE)]
        refine zcu λp A=>?_;rw[zab (λe=>s.1 (by rw[f,<-e];exact zav.2 ⟨p,A,rfl⟩))];rfl
      rw[m];rfl
    | succ j=>
      rw[List.modify_succ_cons,zbc,zbc,zbc];simp only[zcy]at o;have q:(kvE e).1∈(a.map kvE).map (·.1):=zav.2 ⟨kvE e,zav.2 ⟨e,zag o,rfl⟩,rfl⟩;rw[zab (λh=>s.1 (by rw[h,<-f];exact q)),i j e o f s.2]
def A9 {ty:Td} {T k e:Td} [L:IsMap P T k e] [t:mD P k] {i:L8}
    (H:Sep w0 S rs w) (E:At rs (iD b D) put) (G:ρ x=.map (some b)) (n:ρ y=str i) (Q:ρ z=v):
    ∃w',Oq P ρ (.mapUpdate T x y z) ty w w'/\Sep w0 S (put (iD b (Bc D i v))) w':=by
  obtain⟨q,c,g,h⟩:=H.Uc E;obtain⟨r,p,Z,h3⟩:=pq (P:=P) (w:=w) t.und ⟨i.toArray⟩ q.toList h.keys;have K:=ou (P:=P) (w:=w) t.und false ⟨i.toArray⟩ 9999;have C: ∀o:Obj,(setObj b o).run P w=.ok () {w with heap:=w.heap.setIfInBounds b o}:=λo=>by simp[Go.setObj,Sem.run,g]
  have W:ρ y=.string ⟨i.toArray⟩:=n;rw[Ll h.keys,h.data]at Z;cases r with
  | none=>
    refine⟨{w with heap:=w.heap.setIfInBounds b (.map (q.push {key:=.string ⟨i.toArray⟩,val:=v,born:=c}) (c+1))},λ_ _ _ _=>?_,H.Ue E ⟨?_,?_,abb h.nd,?_,?_⟩⟩
    . simp only[execOp,G,W,Q,Instr.mapUpdate,zbj,run_underlying L.und,zar,jm g]
      rw[K];simp only[zar,p,C,zbl]
    . intro e f
      simp at f
      rcases f with f | f
      . exact h.keys e (by simpa using f)
      exact⟨_,by rw[f]⟩
    . have Y:mW D i=none:=by rw[<-Z];rfl
      rw[zfv,zan,h.data];unfold Bc;rw[zab (by rw[Y];simp)];rfl
    . rw[zfv,zan,zet]
      refine⟨h.born,sM,λa X d hd e=>?_⟩;obtain⟨x,G,rfl⟩:=zav.1 X;simp at hd;have:=h.old x G;omega
    intro e f;rw[zfv,zbh,zaw]at f
    rcases f with f | rfl
    . have:=h.old e f;omega
    exact zfo _
  | some jv=>
    obtain⟨j,u⟩:=jv;obtain⟨e,f,R,yL⟩:=h3 j u rfl;have N:=h.keys e (zag f)
    have s:(kvE e).1=i:=by
      rw[NK N]at R;exact eq_of_beq R
    have O:e.key=.string ⟨i.toArray⟩:=by
      obtain⟨a,X⟩:=N;rw[X];unfold kvE at s;rw[X]at s;rw[af5 a,show a.data.toList=i from s];rfl
    have V:(((q[j]?).map (·.key)).getD (.string ⟨i.toArray⟩))=.string ⟨i.toArray⟩:=by
      have :q[j]? =some e:=by simpa using f
      rw[this];simp[O]
    have F:(Instr.keyThatStays (.string ⟨i.toArray⟩) (.string ⟨i.toArray⟩)).run P w=.ok (.string ⟨i.toArray⟩) w:=by simp[Instr.keyThatStays,Instr.sameBits]
    have J:(q.modify j λe=>{e with key:=str i,val:=v}).toList.map (·.born)=q.toList.map (·.born):=by
      rw[zfl];refine zes λm=>?_;simp only[zbw,List.getElem?_modify];cases l:q.toList[m]? with
      | none=>rfl
      | some x=>simp only[zdk];split<;>rfl
    refine⟨{w with heap:=w.heap.setIfInBounds b (.map (q.modify j λe=>{e with key:=.string ⟨i.toArray⟩,val:=v}) c)},λ_ _ _ _=>?_,H.Ue E ⟨?_,?_,abb h.nd,by exact J▸h.born,?_⟩⟩
    . simp only[execOp,G,W,Q,Instr.mapUpdate,zbj,run_underlying L.und,zar,jm g]
      rw[K];simp only[zar,p,V,F,C,zbj,zbl]
    . intro e' M
      simp only[zfl]at M;obtain⟨m,l,rfl⟩:=zfy.1 M;rw[List.getElem_modify]
      split
      . exact⟨_,rfl⟩
      exact h.keys _ (zgd _)
    . have Y:mW D i=some u:=by rw[<-Z];rfl
      unfold Bc;rw[zac (by rw[Y];rfl),<-h.data,zfl];exact adA i v _ j e f s (by rw[h.data];exact h.nd)
    intro x G;have :x.born∈(q.modify j λe=>{e with key:=str i,val:=v}).toList.map (·.born):=zav.2 ⟨x,G,rfl⟩;rw[J]at this;obtain⟨y,n,e⟩:=zav.1 this;rw[<-e];exact h.old y n
def OV {ty:Td} {T U k e:Td} [n:IsMap P T k e] [g:mD P k] {i:L8}
    (H:Sep w0 S rs w) (F:At rs (iD b D) put) (E:ρ x=.map (some b)) (L:ρ y=str i):
    ∃w',ah P ρ (.call {callee:=.builtin .delete,args:= #[x,y],argTypes:= #[T,U]}) ty w (.tuple #[]) w'/\Sep w0 S (put (iD b (Xw D i))) w':=by
  obtain⟨A,c,W,a⟩:=H.Uc F;obtain⟨r,R,V,d⟩:=pq (P:=P) (w:=w) g.und ⟨i.toArray⟩ A.toList a.keys;have G:=ou (P:=P) (w:=w) g.und A.isEmpty ⟨i.toArray⟩ 9999;have m: ∀o:Obj,(setObj b o).run P w=.ok () {w with heap:=w.heap.setIfInBounds b o}:=λo=>by simp[Go.setObj,Sem.run,W]
  have O:ρ y=.string ⟨i.toArray⟩:=L;rw[Ll a.keys,a.data]at V;cases r with
  | none=>
    have t:mW D i=none:=by rw[<-V];rfl
    have z:Xw D i=D:=by
      unfold Xw;rw[zeu];intro p Z;have:=Dp.1 t;have v:(p.1==i)=false:=beq_eq_false_iff_ne.2 λe=>this (zav.2 ⟨p,Z,e⟩);rw[v];rfl
    refine⟨{w with heap:=w.heap.setIfInBounds b (.map A c)},λ_ _ _ _=>?_,H.Ue F (by rw[z];exact a)⟩;simp only[execOp,resolve,invoke,builtin,zch,zbc,zcn,E,O,Builtin.delete_,zbj,zbl,zar,List.getElem?_toArray,zcx,zcy,run_underlying n.und,jm W];rw[G];simp only[zar,R,zbj,m,zbl]
  | some jv=>
    obtain⟨j,u⟩:=jv;obtain⟨e,q,M,Y⟩:=d j u rfl;have X:=a.keys e (zag q)
    have J:(kvE e).1=i:=by
      rw[NK X]at M;exact eq_of_beq M
    have s:j<A.toList.length:=(zba.1 q).1
    have f:(A.eraseIdxIfInBounds j).toList=A.toList.eraseIdx j:=by
      rw[Array.eraseIdxIfInBounds];rw[dif_pos I5,Array.toList_eraseIdx]
    refine⟨{w with heap:=w.heap.setIfInBounds b (.map (A.eraseIdxIfInBounds j) c)},λ_ _ _ _=>?_,H.Ue F ⟨?_,?_,ait a.nd,?_,?_⟩⟩
    . simp only[execOp,resolve,invoke,builtin,zch,zbc,zcn,E,O,Builtin.delete_,zbj,zbl,zar,List.getElem?_toArray,zcx,zcy,run_underlying n.und,jm W]
      rw[G];simp only[zar,R,zbj,m,zbl]
    . intro x E
      rw[f]at E;exact a.keys x ((List.eraseIdx_sublist _ _).subset E)
    . rw[f,<-a.data]
      have K:=a.nd;rw[<-a.data]at K;clear f Y d R V G m;unfold Xw
      revert s K
      generalize A.toList=l at q |-
      intro s K
      induction l generalizing j with
      | nil=>simp at q
      | cons x l Q=>
        rw[zbc,zbc,zfg]at K;cases j with
        | zero=>
          simp at q;subst q;rw[List.eraseIdx_cons_zero,zbc,zej];rw[zab (by rw[J];simp)];rw[eq_comm,zeu];intro p Z;rw[show(p.1==i)=false from beq_eq_false_iff_ne.2 λe=>K.1 (by rw[J,<-e];exact zav.2 ⟨p,Z,rfl⟩)];rfl
        | succ j=>
          simp only[zcy]at q;have N:(kvE e).1∈(l.map kvE).map (·.1):=zav.2 ⟨kvE e,zav.2 ⟨e,zag q,rfl⟩,rfl⟩;rw[List.eraseIdx_cons_succ,zbc,zbc,zej];rw[show((kvE x).1==i)=false from beq_eq_false_iff_ne.2 λh=>K.1 (by rw[h,<-J];exact N)];show _=kvE x::List.filter (λp=> !(p.1==i)) (List.map kvE l)
          rw[Q j q I5 K.2]
    . rw[f]
      exact a.born.sublist ((List.eraseIdx_sublist _ _).map _)
    intro x E;rw[f]at E;exact a.old x ((List.eraseIdx_sublist _ _).subset E)
def vV (r b:Nat) (D L:List Ent):HP:=exH λx:Array MapEntry×Nat×Array Nat=>dx (dx (obj b (.map x.1 x.2.1)) (obj r (.mapIter (some b) x.2.1 x.2.2 x.2.1))) (jH (NJ x.1.toList x.2.1 D/\((leftOf x.1 x.2.2).toList.map kvE).Perm L))
def Uf (r b:Nat) (D L:List Ent) (p:Ent):HP:=exH λx:Array MapEntry×Nat×Array Nat×MapEntry=>dx (dx (obj b (.map x.1 x.2.1)) (obj r (.mapIter (some b) x.2.1 (x.2.2.1.push x.2.2.2.born) x.2.1)))
 (jH ((NJ x.1.toList x.2.1 D/\((leftOf x.1 (x.2.2.1.push x.2.2.2.born)).toList.map kvE).Perm L)/\x.2.2.2∈x.1.toList/\x.2.2.2.key=str p.1/\x.2.2.2.val=p.2))
variable {r:Nat} {L:List Ent}
def Sep.agG (H:Sep w0 S rs w) (k:At rs (vV r b D L) put):Sep w0 S (put (iD b D)) w:=by
 obtain⟨F,⟨⟨e,c,s⟩,A,C,j,M,⟨G,E,m,o,a,J⟩,⟨f,_⟩,K⟩,_,h⟩:=H.bG k;exact h w G _ (aS.refl _ _) (Dq.2 ⟨a.1,e,c,a.2,f⟩) λx q=>.inl ((j x).2 (.inl ((m x).2 (.inl q))))
def Sep.Ug {p:Ent} (H:Sep w0 S rs w) (a:At rs (Uf r b D L p) put):Sep w0 S (put (vV r b D L)) w:=by
 refine H.imp a λF k=>?_;obtain⟨⟨m,c,s,e⟩,f,j,k,A,h,⟨o,_⟩,q⟩:=k;exact⟨⟨m,c,s.push e.born⟩,f,j,k,A,h,o,q⟩
def agH {F:NP} (h:(vV r b D L).ok F w): ∃k c s,(∀x,F x↔x=b\/x=r)/\b≠r/\w.heap[b]? =some (.map k c)/\w.heap[r]? =some (.mapIter (some b) c s c)/\NJ k.toList c D/\((leftOf k s).toList.map kvE).Perm L:=by
 obtain⟨⟨k,c,s⟩,E,G,A,M,⟨J,K,C,j,a,f⟩,⟨m,o⟩,q⟩:=h;refine⟨k,c,s,λx=>?_,λe=>j b ((a.1 b).2 rfl) ((f.1 b).2 e),a.2,f.2,m,o⟩;rw[A,C,a.1,f.1];exact⟨λh=>h.elim id λh=>(q x h).elim,.inl⟩
def Uh {ty:Td} {T k e:Td} [C:IsMap P T k e] (H:Sep w0 S rs w) (o:At rs (iD b D) put) (s:ρ x=.map (some b)):
    ∃r w',ah P ρ (.range T x) ty w (.pointer (some ⟨r,0,none⟩)) w'/\Sep w0 S (put (vV r b D D)) w'/\aS noB w w':=by
  obtain⟨F,E,_,j⟩:=H.bG o;obtain⟨A,m,c,q,f⟩:=Dq.1 E;have a:=lq q;refine⟨w.heap.size,w.alloc (.mapIter (some b) c #[] c),λ_ _ _ _=>?_,?_,aS.alloc _ _⟩
  . simp only[execOp,s]
    simp only[zbj,run_range_map w T k e b m c C.und q,zar,zbl]
  refine j _ (λx=>x=b\/x=w.heap.size) _ ((aS.alloc _ _).mono λ_ h=>h.elim) ?_ λx s=>?_
  . refine⟨⟨m,c, #[]⟩,λx=>x=b\/x=w.heap.size,λ_=>False,λx=>sM,λ_ _ h=>h,⟨λx=>x=b,λx=>x=w.heap.size,λ_=>Iff.rfl,λx G J=>oM,⟨λ_=>Iff.rfl,?_⟩,⟨λ_=>Iff.rfl,heap_alloc_new _ _⟩⟩,⟨f,?_⟩,λ_ h=>h⟩
    . show(w.alloc _).heap[b]? =_
      rw[heap_alloc_old _ _ a];exact q
    show((leftOf m #[]).toList.map kvE).Perm D
    unfold leftOf;rw[zgf,zeu.2 (λx _=>sM),f.data]
  rcases s with rfl | rfl
  . exact .inl ((A _).2 rfl)
  exact .inr (zbk _)
def zB: ∀{l:List MapEntry} {e:MapEntry},(l.map (·.born)).Nodup->e∈l->l.Perm (e::l.filter λx=> !(x.born==e.born))
 | [],_,_,h=>by cases h
 | x::l,e,hn,h=>by
  rw[zbc,zfg]at hn
  rcases zax.1 h with rfl | h
  .rw[zej,zab sM]
   rw[zeu.2];intro y a;rw[show(y.born==e.born)=false from beq_eq_false_iff_ne.2 λh=>hn.1 (by rw[<-h];exact zav.2 ⟨y,a,rfl⟩)];rfl
  rw[zej,zac (by rw[show(x.born==e.born)=false from beq_eq_false_iff_ne.2 λk=>hn.1 (by rw[k];exact zav.2 ⟨e,h,rfl⟩)];rfl)];exact((zB hn.2 h).cons x).trans (List.Perm.swap e x _)
def KX {ty:Td} (H:Sep w0 S rs w) (O:At rs (vV r b D L) put) (M:ρ x=.pointer (some ⟨r,0,none⟩)):
    (L=[]/\ah P ρ (.next x false) ty w (.tuple #[.bool false]) w)\/
    ∃p Z w',L.Perm (p::Z)/\ah P ρ (.next x false) ty w (.tuple #[.bool true,str p.1,p.2]) w'/\Sep w0 S (put (Uf r b D Z p)) w':=by
  obtain⟨F,Q,_,G⟩:=H.bG O;obtain⟨m,c,s,d,C,g,t,f,A⟩:=agH Q
  rcases run_next_at (P:=P) w ty r b c c s m c t g f.old (zbk _)with⟨u,k⟩ | ⟨e,l,o,Y,k⟩
  . left
    refine⟨?_,λ_ _ _ _=>?_⟩
    . have :(leftOf m s).toList=[]:=by
        rw[List.eq_nil_iff_length_eq_zero];simpa using u
      rw[this]at A;exact List.nil_perm.1 A
    simp only[execOp,M];simp only[zbj,k,zar,zbl]
  right
  obtain⟨E,hse⟩:=mem_left l;obtain⟨a,z⟩:=f.keys e E
  have n:e.key=str (kvE e).1:=by
    unfold kvE;rw[z];exact af5 a
  have W:(leftOf m (s.push e.born)).toList=(leftOf m s).toList.filter λx=> !(x.born==e.born):=by
    unfold leftOf;rw[zgf,zgf,List.filter_filter];refine List.filter_congr λx _=>?_;rw[contains_push];cases s.contains x.born<;>cases hxe:(x.born==e.born)<;>simp[hxe]
  have X:((leftOf m s).toList.map (·.born)).Nodup:=by
    unfold leftOf;rw[zgf];exact f.born.sublist (List.filter_sublist.map _)
  refine⟨kvE e,(leftOf m (s.push e.born)).toList.map kvE,setBlock o r (.mapIter (some b) c (s.push e.born) c),?_,λ_ _ _ _=>?_,?_⟩
  . refine A.symm.trans ?_
    rw[W,<-zbc];exact(zB X l).map _
  . simp only[execOp,M]
    rw[n]at k;simp only[zbj,k,zar,zbl];rfl
  have q:aS noB w o:=by
    rcases Y with rfl | rfl
    . exact aS.refl _ _
    exact aS.drew _
  have J:=lq t;have K:r<o.heap.size:=Nat.lt_of_lt_of_le J q.size;have R:o.heap[b]? =some (.map m c):=q.get g id
  have V:aS F w (setBlock o r (.mapIter (some b) c (s.push e.born) c)):=by
    refine(q.mono λ_ h=>h.elim).trans (T:=F) ⟨rfl,rfl,rfl,by simp[setBlock],λj hj N=>?_⟩ λi hi=>.inl hi;show(o.heap.setIfInBounds r _)[j]? =_
    simp only[zbz];rw[zab (λe=>N ((d j).2 (.inr e.symm)))]
  refine G _ F _ V ?_ λx M=>.inl M;refine⟨⟨m,c,s,e⟩,F,λ_=>False,λx=>sM,λ_ _ h=>h,⟨λx=>x=b,λx=>x=r,d,λx v y=>C (v.symm.trans y),⟨λ_=>Iff.rfl,?_⟩,⟨λ_=>Iff.rfl,?_⟩⟩,⟨⟨f,List.Perm.refl _⟩,E,n,rfl⟩,λ_ h=>h⟩
  . show(o.heap.setIfInBounds r _)[b]? =_
    rw[zbz,zab (λe=>C e.symm)];exact R
  show(o.heap.setIfInBounds r _)[r]? =_
  rw[zbz,zac rfl,zac K]
def ah.ZJ {p:Ent} (H:Sep w0 S rs w) (h:At rs (Uf r b D L p) put) (C:ρ x=.pointer (some ⟨r,0,none⟩)):
    ah P ρ (.entry x) ty w (.tuple #[str p.1,p.2]) w:=by
  obtain⟨F,⟨⟨k,c,s,e⟩,E,G,N,R,⟨J,K,O,A,a,f⟩,⟨⟨j,_⟩,m,o,q⟩,M⟩,_,_⟩:=H.bG h;intro _ _ _ _;have:=run_entry_at (P:=P) w r b c s k c e f.2 a.2 m j.born;rw[o,q]at this;simp only[execOp,C];simp only[zbj,this,zar,zbl]
end
section
variable {H:Type} {enc:Td×Value->H} {P:Program}
def D6 (o:laidOutB P=true) {W A:Wd} (m:aS noB W A) {sp:Nat->Bool}: ∀{f:List Td} {j:LV} {ds:List (DataW H)} {a:List MemPlace},(∀t∈f,P.readableRec t=true/\t<P.types.size)->
    DataW.TrodAll enc P W 0 (λ_=>true) true f j ds a->(∀x∈a,x.block<W.heap.size)->(∀x∈a,sp x.block=true)->DataW.TrodAll enc P A 0 sp true f j ds a
  | [],[],[],_,_,h,_,_=>h
  | t::f,v::j,d::ds,a,ht,⟨p,q,h1,h2,e⟩,yL,hsp=>by
    subst e
    exact⟨p,q,WideElems.Trod_stays o (ht t zak).1 (ht t zak).2 h1 (λx k=>m.below.same (yL x (zcg _ k))) (λx k=>hsp x (zcg _ k)),
      D6 o m (λu s=>ht u (zap _ s)) h2 (λx k=>yL x (zck _ k)) (λx k=>hsp x (zck _ k)),rfl⟩
  | [],[],_::_,_,_,h,_,_=>h.elim
  | [],_::_,_,_,_,h,_,_=>by cases ‹List (DataW H)› <;>exact h.elim
  | _::_,[],_,_,_,h,_,_=>h.elim
  | _::_,_::_,[],_,_,h,_,_=>h.elim
def agI {f:Func} {s:ChangeSpec} {apart fresh v again:Bool} {W u:Wd} {args:Array Value} {ds x:List (DataW H)} {before:List MemPlace} (S:laidOutB P=true)
    (O:DataW.Whole enc P f.params.toList s.vars apart W args.toList ds x before) (a:s.vars=[]) (V:f.resultTypes= #[t]) (Z:P.underlying t=some .bool) (J:(f.params.toList.all λt=>P.readableRec t&&decide (t<P.types.size))=true)
    (K:s.fn H (ds++x)={results:=[.lit (.bool true)],args:=ds}) (F:aS noB W u) (G:Value.okWide P u .any 0 t (.bool true)):s.post enc P f apart fresh v again W args (.bool true) u:=by
  have h: ∀t∈f.params.toList,P.readableRec t=true/\t<P.types.size:=λt d=>by
    have:=zaz.1 J t d;simpa using this
  have o:=O;obtain⟨e,l,X,N,rfl,i,c⟩:=O
  have A:x=[]/\l=[]:=by
    rw[a]at N;exact trodVars_none N
  obtain⟨rfl,rfl⟩:=A;have m: ∀p∈e,p.block<W.heap.size:=λp h=>o.lt p (zcg _ h)
  have ay: ∀(b:Nat) (sp:Nat->Bool) (R:Bool),DataW.TrodAll enc P u b sp R f.resultTypes.toList ((Value.bool true).resultList f.resultTypes.size) (s.fn H (ds++[])).results []:=by
    intro b sp R;rw[K,V];exact trodAll_mk1 (shut_bool Z true)
  have k: ∀sp:Nat->Bool,(∀p∈e,sp p.block=true)->DataW.TrodAll enc P u 0 sp true f.params.toList args.toList (s.fn H (ds++[])).args e:=by
    intro sp M;rw[K];exact D6 S F h X m M
  have C: ∀sp:Nat->Bool,DataW.TrodVars enc P u sp s.vars (s.fn H (ds++[])).vars []:=by
    intro sp;rw[a,K];exact rfl
  refine⟨ds,[],e++[],[],e,[],o,ay _ _ _,k _ (λp h=>by simpa using m p h),C _,World.keptBut_mono (λp h=>⟨h,?_⟩) (F.below.frame (· ∈e++[])),λ_=>?_⟩
  . simpa using h
  refine⟨λj n r w g=>?_,_,_,([]++e)++[],⟨[]++e,[],trodAll_append (k _ (λ_ _=>rfl)) (ay _ _ _),C _,rfl,?_,?_⟩,?_⟩
  . exact ok_one V rfl G j n r w g
  . intro b E h
    have q:MemPlace.cell b E∈e:=by simpa using h
    rw[F.below.frozen (m _ q)];exact i b E (by simpa using q)
  . intro Y
    have:=c Y;simpa using this
  intro p h _;simpa using h
end
end Go.Proofs.Mw
