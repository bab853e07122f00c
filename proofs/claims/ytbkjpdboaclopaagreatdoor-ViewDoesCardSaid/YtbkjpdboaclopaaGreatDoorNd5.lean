/-
 Rules whose defaults do the plain steps of a walk:operations that give a value by themselves,and the ways between them.
-/
import Derived.Test.YtbkjpdboaclopaaGreatDoorNd4
import Derived.ProofKit
import Derived.Deep.Fields
set_option linter.all false
namespace Go.Proofs.Mw
open Go.RowKit Go.ChangeShapes Go.WideShapes Go.Deep
open Go.ChangeMaps (setBlock)
variable {P:Program} {ρ:Od->Value} {ty:Td} {w w':Wd} {v:Value} {x y u:Od}
variable {T:Td}
def ars {o:BinOp} {U:Td} (h:Gives P ρ (.binOp o T x y U) ty w v w'):Gives P ρ (.binOp o T x y U) ty w v w':=h
def aru {U:Td} (h:Gives P ρ (.binOp .eql T x y U) ty w v w'):Gives P ρ (.binOp .eql T x y U) ty w v w':=h
def arv {U:Td} (h:Gives P ρ (.binOp .neq T x y U) ty w v w'):Gives P ρ (.binOp .neq T x y U) ty w v w':=h
variable {s:Nat}
def ane {f:Nat} (h:Gives P ρ (.fieldAddr s x f) ty w v w'):Gives P ρ (.fieldAddr s x f) ty w v w':=h
def ao9 {b:Builtin} {xs:Array Od} {ts:Array Td} (h:Gives P ρ (.call {callee:=.builtin b,args:=xs,argTypes:=ts}) ty w v w'):Gives P ρ (.call {callee:=.builtin b,args:=xs,argTypes:=ts}) ty w v w':=h
variable {t:Td}
def apa {s:Td} (h:Gives P ρ (.convert s t x) ty w v w'):Gives P ρ (.convert s t x) ty w v w':=h
def anf {a b c:Option Od} (h:Gives P ρ (.slice t x a b c) ty w v w'):Gives P ρ (.slice t x a b c) ty w v w':=h
def apb (h:Gives P ρ (.indexAddr t x y) ty w v w'):Gives P ρ (.indexAddr t x y) ty w v w':=h
def iUn {o:UnOp} (h:Gives P ρ (.unOp o T x) ty w v w'):Gives P ρ (.unOp o T x) ty w v w':=h
def apc (h:Gives P ρ (.pick u x y) ty w v w'):Gives P ρ (.pick u x y) ty w v w':=h
variable {p:Prop}
def gq (h:p:=by first
 | exact Gives.nilCheck rfl
 | (apply ane;first | exact Gives.yt rfl | exact Gives.AX rfl (by assumption) oM | exact Gives.field rfl | exact Gives.ahX rfl)
 | exact Gives.extract rfl rfl
 | (apply ars;first
  | (apply aru;first | exact Gives.eql rfl rfl | exact Gives.arj rfl rfl | exact Gives.aq1 rfl rfl | exact Gives.amu rfl rfl | exact Gives.akG rfl rfl | exact Gives.ahY rfl rfl)
  | (apply arv;first | exact Gives.neq rfl rfl | exact Gives.ark rfl rfl | exact Gives.aq2 rfl rfl | exact Gives.amv rfl rfl)
  | exact Gives.lss rfl rfl
  | exact Gives.leq rfl rfl
  | exact Gives.gtr rfl rfl
  | exact Gives.geq rfl rfl
  | exact Gives.TB rfl rfl rfl oM
  | exact Gives.ams rfl rfl rfl oM
  | exact Gives.amt rfl rfl rfl oM
  | exact Gives.arl rfl rfl
  | exact Gives.Yr rfl rfl (by first | omega | (simp;done) | (simp;omega))
  | exact Gives.add rfl rfl
  | exact Gives.sub rfl rfl
  | exact Gives.mul rfl rfl
  | exact Gives.and rfl rfl
  | exact Gives.or rfl rfl
  | exact Gives.xor rfl rfl
  | exact Gives.shl rfl rfl oM
  | exact Gives.shr rfl rfl oM
  | exact Gives.rem rfl rfl oM
  | exact Gives.quo rfl rfl oM)
 | (apply ao9;first | exact Gives.ari rfl | exact Gives.ahk rfl | exact Gives.min rfl rfl | exact Gives.max rfl rfl)
 | (apply apb;first | exact Gives.fA rfl rfl (by assumption) oM | exact Gives.j6 rfl rfl oM | exact Gives.BO rfl rfl oM | exact Gives.aq8 rfl rfl (by assumption) (by first | exact At0 | exact At1) (by exact sz) oM)
 | (apply apc;first | exact Gives.aoC rfl rfl | exact Gives.alJ rfl rfl | exact Gives.pick rfl rfl rfl)
 | (apply iUn;first | exact Gives.notP rfl | exact Gives.not rfl | exact Gives.neg rfl)
 | (apply apa;first | exact Gives.apl rfl | exact Gives.ak7 rfl oM | exact Gives.U8 rfl oM | exact Gives.aiH rfl oM | exact Gives.ah1 rfl | exact Gives.conv rfl)
 | exact Gives.zu rfl rfl oM
 | (apply anf;first | exact Gives.sliceTo rfl rfl oM | exact Gives.sliceFrom rfl rfl oM | exact Gives.sQ rfl rfl oM | exact Gives.qc rfl rfl oM | exact Gives.aez rfl rfl rfl oM oM | exact Gives.EP rfl rfl rfl oM oM | exact Gives.ahl rfl)
 | exact Gives.Yt rfl rfl
 | exact Gives.ah2 rfl rfl
 | exact Gives.akJ rfl rfl oM rfl
 | exact Gives.makeFunc rfl rfl
 | fail):p:=h
variable {r:Option Nat} {n d:Nat} {ops:AO} {Q:Post} {rest:LO} {σ:St} {pos:String} {after:Array Edge} {guard:Option (Nat×Bool)} {lv:List Bool} {pd:LNB} {op:Op}
def Vq (h:FL P r n ops Q rest (upd σ d v) w) (hg:Gives P (evF σ) op ty w v w:=by exact gq) (hd:Nat.blt d n=true:=by exact rfl):FL P r n ops Q (⟨some d,op,ty,pos,after,none⟩::rest) σ w:=dD hg hd h
def sT {l:LNB} (h:l.all (λp=>p.2)=true:=by kernel_rfl):jo P ops σ w l:=by
 induction l with
 | nil=>trivial
 | cons p l ih=>
  obtain⟨i,b⟩:=p;simp only[List.all_cons,zbr]at h;obtain⟨rfl,h⟩:=h;exact ih h
def FGn (P:Program) (r:Option Nat) (n:Nat) (ops:AO) (Q:Post) (i:Nat) (lv:List Bool) (pd:LNB) (σ:St) (w:Wd):Prop:=lN ops lv (pd.map (·.1)) i=true->FG P r n ops Q lv pd σ w
def G0 {k:Nat} (h:FGn P r n ops Q 0 (List.replicate k false) pd σ w) (dN:lN ops (List.replicate k false) (pd.map (·.1)) 0=true:=by decide+kernel):FG P r n ops Q (List.replicate k false) pd σ w:=h dN
variable {j:Nat}
def GS (h:FGn P r n ops Q (j+1) (lv.set j true) pd σ w) (dN:lN ops (lv.set j true) (pd.map (·.1)) (j+1)=true:=by decide+kernel):FG P r n ops Q (lv.set j true) pd σ w:=h dN
variable {i:Nat}
def Gn {v:Value} (ho:ops[i]? =some ⟨some d,op,ty,pos,after,guard⟩) (hg: ∀w,Gives P (evF σ) op ty w v w) (h:FG P r n ops Q (lv.set i true) ((i,true)::pd) (upd σ d v) w) (fB:dX n ops=true:=by assumption)
    (hw:Region.wanted ⟨some d,op,ty,pos,after,guard⟩ (bY ops σ)=true:=by exact rfl):FGn P r n ops Q i lv pd σ w:=λdN=>FGp fB i ho hw hg dN h
def Gt {v:Value} (ho:ops[i]? =some ⟨some d,op,ty,pos,after,guard⟩) (hg:Gives P (evF σ) op ty w v w) (h:FG P r n ops Q (lv.set i true) ((i,false)::pd) (upd σ d v) w) (fB:dX n ops=true:=by assumption)
    (hw:Region.wanted ⟨some d,op,ty,pos,after,guard⟩ (bY ops σ)=true:=by exact rfl):FGn P r n ops Q i lv pd σ w:=λdN=>FGl fB i ho hw hg dN h
variable {w0:Wd} {S:NP} {rs:List HP}
def Gu {put:HP->List HP} {b o:Nat} [OneCell P T] {cs:LV} {E:Td} (ho:ops[i]? =some ⟨some d,.load T x,ty,pos,after,guard⟩) (H:Sep w0 S rs w) (h:FG P r n ops Q (lv.set i true) ((i,false)::pd) (upd σ d v) w) (fB:dX n ops=true:=by assumption)
    (hw:Region.wanted ⟨some d,.load T x,ty,pos,after,guard⟩ (bY ops σ)=true:=by exact rfl) (hx:evF σ x=.pointer (some ⟨b,o,none⟩):=by exact rfl)
    (hat:At rs (blk b cs E) put:=by exact aT) (hv:cs[o]? =some v:=by exact rfl):FGn P r n ops Q i lv pd σ w:=λdN=>FGl fB i ho hw (Gives.nu hx (H.obj hat) hv) dN h
def Gw {put:HP->List HP} {b k:Nat} [Agg P T k] {cs:LV} {E:Td} (ho:ops[i]? =some ⟨some d,.load T x,ty,pos,after,guard⟩) (H:Sep w0 S rs w) (h:FG P r n ops Q (lv.set i true) ((i,false)::pd) (upd σ d (.agg cs.toArray)) w) (fB:dX n ops=true:=by assumption)
    (hw:Region.wanted ⟨some d,.load T x,ty,pos,after,guard⟩ (bY ops σ)=true:=by exact rfl) (hx:evF σ x=.pointer (some ⟨b,0,none⟩):=by exact rfl)
    (hat:At rs (blk b cs E) put:=by exact aT) (hk:cs.length=k:=by exact rfl):FGn P r n ops Q i lv pd σ w:=λdN=>FGl fB i ho hw (Gives.Ky (us:=cs) hx (H.obj hat) (by rw[zde,<-hk,zbq]) hk) dN h
def Gv (ho:ops[i]? =some ⟨some d,op,ty,pos,after,guard⟩) (fB:dX n ops=true) (h:FG P r n ops Q (lv.set i true) ((i,true)::pd) (upd σ d v) w)
    (hg: ∀w,Gives P (evF σ) op ty w v w:=by intro w_;first | exact Gives.move (by exact eV) | exact Gives.assign rfl | exact gq | fail)
    (hw:Region.wanted ⟨some d,op,ty,pos,after,guard⟩ (bY ops σ)=true:=by exact rfl):FGn P r n ops Q i lv pd σ w:=λdN=>FGp fB i ho hw hg dN h
def Go' (ho:ops[i]? =some ⟨some d,op,ty,pos,after,guard⟩) (fB:dX n ops=true) (h:FG P r n ops Q (lv.set i true) ((i,true)::pd) (upd σ d undef) w)
    (hw:Region.wanted ⟨some d,op,ty,pos,after,guard⟩ (bY ops σ)=false:=by exact rfl):FGn P r n ops Q i lv pd σ w:=λdN=>Rl fB i ho hw dN h
def Vc (c:Int) (h:FL P r n ops Q rest (upd σ d (.int .i64 c)) w) (hg:Gives P (evF σ) op ty w (.int .i64 c) w:=by first | exact Gives.TB rfl rfl oM oM | exact Gives.ams rfl rfl oM oM | exact Gives.amt rfl rfl oM oM) (hd:Nat.blt d n=true:=by exact rfl):FL P r n ops Q (⟨some d,op,ty,pos,after,none⟩::rest) σ w:=dD hg hd h
def Gc (fB:dX n ops=true) (i:Nat) (c:Int) (h:FG P r n ops Q (lv.set i true) ((i,true)::pd) (upd σ d (.int .i64 c)) w) (ho:ops[i]? =some ⟨some d,op,ty,pos,after,guard⟩:=by exact rfl) (hw:Region.wanted ⟨some d,op,ty,pos,after,guard⟩ (bY ops σ)=true:=by exact rfl)
    (hg: ∀w,Gives P (evF σ) op ty w (.int .i64 c) w:=by intro w_;first | exact Gives.TB rfl rfl oM oM | exact Gives.ams rfl rfl oM oM | exact Gives.amt rfl rfl oM oM) (dN:lN ops lv (pd.map (·.1)) i=true:=by kernel_rfl):FG P r n ops Q lv pd σ w:=FGp fB i ho hw hg dN h
def Vb (us:LV) (h:FL P r n ops Q rest (upd σ d (.agg us.toArray)) w) (hg:Gives P (evF σ) op ty w (.agg us.toArray) w:=by refine Gives.build ?_;repeat (first | exact Fills.nil | refine Fills.one rfl rfl rfl sM rfl ?_ | refine Fills.many rfl rfl sM rfl ?_)) (hd:Nat.blt d n=true:=by exact rfl):FL P r n ops Q (⟨some d,op,ty,pos,after,none⟩::rest) σ w:=dD hg hd h
def Gb (fB:dX n ops=true) (i:Nat) (us:LV) (h:FG P r n ops Q (lv.set i true) ((i,true)::pd) (upd σ d (.agg us.toArray)) w) (ho:ops[i]? =some ⟨some d,op,ty,pos,after,guard⟩:=by exact rfl) (hw:Region.wanted ⟨some d,op,ty,pos,after,guard⟩ (bY ops σ)=true:=by exact rfl)
    (hg: ∀w,Gives P (evF σ) op ty w (.agg us.toArray) w:=by intro w_;refine Gives.build ?_;repeat (first | exact Fills.nil | refine Fills.one rfl rfl rfl sM rfl ?_ | refine Fills.many rfl rfl sM rfl ?_)) (dN:lN ops lv (pd.map (·.1)) i=true:=by kernel_rfl):FG P r n ops Q lv pd σ w:=FGp fB i ho hw hg dN h
def Bs {t e k:Nat} {parts:List (Nat×Od)} {size bytes:Nat} [hs:dn P t e] [hc:Cells P e size bytes] {z:Value} [hz:Zero P e z] (H:Sep w0 S rs w) (out:LV)
    (h: ∀b w',Sep w0 S (blk b out e::rs) w'->Kept noB w w'->FL P r n ops Q rest (upd σ d (.slice (some ⟨b,0,none⟩) k k)) w') (hk:(parts.map (·.2)).length=k:=by exact rfl)
    (hE:eu (evF σ) size (parts.map (·.2)) out:=by repeat (first | exact eu.nil | refine eu.one rfl rfl ?_ | refine eu.many rfl rfl ?_)) (hp:parts=((parts.map (·.2)).zipIdx 0).map λp=>(p.2,p.1):=by exact rfl) (hl:Nat.ble (k*size) 16777216=true:=by exact rfl) (hd:Nat.blt d n=true:=by exact rfl):
    FL P r n ops Q (⟨some d,.buildSlice t k parts.toArray,ty,pos,after,none⟩::rest) σ w:=by
  subst hk;exact nM H hE hp hl hd h
def Gz {t e k:Nat} {parts:List (Nat×Od)} {size bytes:Nat} [hs:dn P t e] [hc:Cells P e size bytes] {z:Value} [hz:Zero P e z] (fB:dX n ops=true) (i:Nat) (pd':LNB) (H:Sep w0 S rs w) (out:LV)
    (ho:ops[i]? =some ⟨some d,.buildSlice t k parts.toArray,ty,pos,after,guard⟩:=by exact rfl) (hk:(parts.map (·.2)).length=k:=by exact rfl)
    (hw:Region.wanted ⟨some d,.buildSlice t k parts.toArray,ty,pos,after,guard⟩ (bY ops σ)=true:=by kernel_rfl) (hE:eu (evF σ) size (parts.map (·.2)) out:=by repeat (first | exact eu.nil | refine eu.one rfl rfl ?_ | refine eu.many rfl rfl ?_)) (hp:parts=((parts.map (·.2)).zipIdx 0).map λp=>(p.2,p.1):=by exact rfl) (hl:Nat.ble (k*size) 16777216=true:=by exact rfl)
    (dN:fE ops lv (pd.map (·.1)) i=true:=by kernel_rfl) (oH:pd.filter (λp=> !((above ops i).contains p.1))=pd':=by exact pD)
    (h: ∀b w',Sep w0 S (blk b out e::rs) w'->jo P ops (upd σ d (.slice (some ⟨b,0,none⟩) k k)) w' pd'/\FG P r n ops Q (lv.set i true) pd' (upd σ d (.slice (some ⟨b,0,none⟩) k k)) w'):FG P r n ops Q lv pd σ w:=by
  subst hk;exact UO fB i pd' H hE ho hw hp hl dN oH h
def sL (h:p:=by repeat (first | exact eF | refine ay ?_ | refine iL (by assumption) (h:=?_))):p:=h
variable {l:LO} {dst:Option Nat} {g:Nat×Bool} {c:Code} {z:Od} {T:Td}
def iFW (h:FW P r n c Q σ w):FW P r n c Q σ w:=h
def iFL (h:FL P r n ops Q l σ w):FL P r n ops Q l σ w:=h
def iFG (h:FG P r n ops Q lv pd σ w):FG P r n ops Q lv pd σ w:=h
def iMv (h:FL P r n ops Q (⟨some d,.move x,ty,pos,after,none⟩::rest) σ w):FL P r n ops Q (⟨some d,.move x,ty,pos,after,none⟩::rest) σ w:=h
def iAm (h:FL P r n ops Q (⟨some d,.assign x,ty,pos,after,none⟩::rest) σ w):FL P r n ops Q (⟨some d,.assign x,ty,pos,after,none⟩::rest) σ w:=h
def iLd (h:FL P r n ops Q (⟨some d,.load T x,ty,pos,after,none⟩::rest) σ w):FL P r n ops Q (⟨some d,.load T x,ty,pos,after,none⟩::rest) σ w:=h
def arw (h:FL P r n ops Q (⟨some d,op,ty,pos,after,none⟩::rest) σ w):FL P r n ops Q (⟨some d,op,ty,pos,after,none⟩::rest) σ w:=h
def iGd (h:FL P r n ops Q (⟨dst,op,ty,pos,after,some g⟩::rest) σ w):FL P r n ops Q (⟨dst,op,ty,pos,after,some g⟩::rest) σ w:=h
variable {c':Code}
def iCo (h:FW P r n (.cond x c c') Q σ w):FW P r n (.cond x c c') Q σ w:=h
def tb (h:p:=by first | with_reducible rfl | (simp only[Bool.not_true,Bool.not_false];done) | fail):p:=h
variable {b:Bool}
def On' {b':Bool} {t:Nat} (hj:(ops[j]?).bind (λo:Oper=>o.dst)=some t) (hb:σ t=.bool b') (h:FL P r n ops Q (⟨dst,op,ty,pos,after,none⟩::rest) σ w) (hbb:b'=b:=by exact tb):FL P r n ops Q (⟨dst,op,ty,pos,after,some (j,b)⟩::rest) σ w:=alI hj (by rw[hb,hbb]) h
def Of' {b':Bool} {t:Nat} (hj:(ops[j]?).bind (λo:Oper=>o.dst)=some t) (hb:σ t=.bool b') (h:FL P r n ops Q rest (sj σ dst undef) w) (hbb:(!b')=b:=by exact tb) (hd:Qr n dst=true:=by exact rfl):FL P r n ops Q (⟨dst,op,ty,pos,after,some (j,b)⟩::rest) σ w:=amr hj (by rw[hb,<-hbb,Bool.not_not]) hd h
def Ct {t:Bool} (hv:evF σ x=.bool t) (h:FW P r n c Q σ w) (ht:t=true:=by exact tb):FW P r n (.cond x c c') Q σ w:=dV (by rw[hv,ht]) h
def Cf {t:Bool} (hv:evF σ x=.bool t) (h:FW P r n c' Q σ w) (ht:t=false:=by exact tb):FW P r n (.cond x c c') Q σ w:=D7 (by rw[hv,ht]) h
variable {q:Prop}
def aB (hc:p) (h:p->q:=by intro c;first | exact zas rfl c | exact(c trivial).elim | exact zas c dC | exact zas c sM | omega | fail):q:=h hc
structure Bx (q:Prop):Prop where
 g:q
def Xs (hq:q) (h:Bx q->p:=by
 intro h
 first
 | (apply iFL;first
  | (apply iMv;refine Mv ?_)
  | (apply iAm;refine Am ?_)
  | (apply iLd;first
   | refine Ld (by assumption) ?_
   | refine fQ (by assumption) (h:=?_)
   | refine dD (Gives.dG rfl (by assumption) (by assumption) (by assumption) rfl) rfl ?_
   | refine dD (Gives.aiP rfl (by assumption) (by assumption) (by assumption) rfl) rfl ?_
   | refine dD (Gives.iA rfl (by assumption) (by assumption) (by assumption)) rfl ?_)
  | (apply arw;refine Vq ?_))
 | (apply iFG;(first | refine GS ?_ | refine G0 ?_);(first | refine Gv rfl (by assumption) ?_ | refine Gu rfl (by assumption) ?_ | refine Gw rfl (by assumption) ?_ | refine Gt rfl (Gives.dG rfl (by assumption) (by assumption) (by assumption) rfl) ?_ | refine Gt rfl (Gives.aiP rfl (by assumption) (by assumption) (by assumption) rfl) ?_ | refine Gt rfl (Gives.iA rfl (by assumption) (by assumption) (by assumption)) ?_ | refine Gt rfl (Gives.aoZ rfl (by assumption) (by first | exact At0 | exact At1) (by exact sz) oM) ?_))
 exact h.g):p:=h ⟨hq⟩
def Xg (hq:q) (h:Bx q->p:=by
 intro h
 repeat (first
 | (apply iFL;first
  | refine yj ?_
  | (apply iGd;first | refine On' rfl rfl ?_ | refine Of' rfl rfl ?_ | refine akF rfl rfl rfl ?_))
 | (apply iFW;first
  | refine Bo ?_
  | refine Jf ?_
  | refine uS ?_
  | refine abQ ?_
  | (apply iCo;first | refine Ct rfl ?_ | refine Cf rfl ?_)
  | refine ME ?_
  | refine Tx ?_
  | refine FW_scope ?_)
 | (apply iFG;first
  | refine fO (by assumption) (by decide+kernel) ?_
  | ((first | refine GS ?_ | refine G0 ?_);refine Go' rfl (by assumption) ?_))
 | refine iK ?_
 | refine xG ?_
 | refine FB ?_
 | refine Jd ?_
 | refine uR ?_
 | refine Je ?_
 | refine Tw rfl ?_
 | refine Zn ?_
 | refine Bp ?_
 | refine af9 ?_
 | refine adl ?_
 | refine aiu (h:=?_)
 | refine YB (h:=?_)
 | refine ajK (hR:=?_)
 | refine Zo (hR:=?_)
 | refine Qscope_normal ?_
 | refine Qscope_ret ?_)
 exact h.g):p:=h ⟨hq⟩
def Lp (hq:q) (h:Bx q->p:=by intro h;(try simp only[VW,like,amo,amq]);exact h.g):p:=h ⟨hq⟩
def O1 (hq:q) (h:Bx q->p:=by intro h;(iterate 1 (first | refine Xs ?_ | (refine Xg ?_;refine Xs ?_)));exact h.g):p:=h ⟨hq⟩
def V1 {p q:Prop} (hq:q) (h:Bx q->p:=by intro h;(iterate 1 (first | refine Xs ?_ | (refine Xg ?_;refine Xs ?_)));refine Xg ?_;exact h.g):p:=h ⟨hq⟩
def O2 (hq:q) (h:Bx q->p:=by intro h;(iterate 2 (first | refine Xs ?_ | (refine Xg ?_;refine Xs ?_)));exact h.g):p:=h ⟨hq⟩
def V2 {p q:Prop} (hq:q) (h:Bx q->p:=by intro h;(iterate 2 (first | refine Xs ?_ | (refine Xg ?_;refine Xs ?_)));refine Xg ?_;exact h.g):p:=h ⟨hq⟩
def O3 (hq:q) (h:Bx q->p:=by intro h;(iterate 3 (first | refine Xs ?_ | (refine Xg ?_;refine Xs ?_)));exact h.g):p:=h ⟨hq⟩
def V3 {p q:Prop} (hq:q) (h:Bx q->p:=by intro h;(iterate 3 (first | refine Xs ?_ | (refine Xg ?_;refine Xs ?_)));refine Xg ?_;exact h.g):p:=h ⟨hq⟩
def O4 (hq:q) (h:Bx q->p:=by intro h;(iterate 4 (first | refine Xs ?_ | (refine Xg ?_;refine Xs ?_)));exact h.g):p:=h ⟨hq⟩
def V4 (hq:q) (h:Bx q->p:=by intro h;(iterate 4 (first | refine Xs ?_ | (refine Xg ?_;refine Xs ?_)));refine Xg ?_;exact h.g):p:=h ⟨hq⟩
def O5 (hq:q) (h:Bx q->p:=by intro h;(iterate 5 (first | refine Xs ?_ | (refine Xg ?_;refine Xs ?_)));exact h.g):p:=h ⟨hq⟩
def V5 {p q:Prop} (hq:q) (h:Bx q->p:=by intro h;(iterate 5 (first | refine Xs ?_ | (refine Xg ?_;refine Xs ?_)));refine Xg ?_;exact h.g):p:=h ⟨hq⟩
def O6 (hq:q) (h:Bx q->p:=by intro h;(iterate 6 (first | refine Xs ?_ | (refine Xg ?_;refine Xs ?_)));exact h.g):p:=h ⟨hq⟩
def V6 {p q:Prop} (hq:q) (h:Bx q->p:=by intro h;(iterate 6 (first | refine Xs ?_ | (refine Xg ?_;refine Xs ?_)));refine Xg ?_;exact h.g):p:=h ⟨hq⟩
def O7 (hq:q) (h:Bx q->p:=by intro h;(iterate 7 (first | refine Xs ?_ | (refine Xg ?_;refine Xs ?_)));exact h.g):p:=h ⟨hq⟩
def V7 (hq:q) (h:Bx q->p:=by intro h;(iterate 7 (first | refine Xs ?_ | (refine Xg ?_;refine Xs ?_)));refine Xg ?_;exact h.g):p:=h ⟨hq⟩
def V8 (hq:q) (h:Bx q->p:=by intro h;(iterate 8 (first | refine Xs ?_ | (refine Xg ?_;refine Xs ?_)));refine Xg ?_;exact h.g):p:=h ⟨hq⟩
def O9 (hq:q) (h:Bx q->p:=by intro h;(iterate 9 (first | refine Xs ?_ | (refine Xg ?_;refine Xs ?_)));exact h.g):p:=h ⟨hq⟩
def V9 (hq:q) (h:Bx q->p:=by intro h;(iterate 9 (first | refine Xs ?_ | (refine Xg ?_;refine Xs ?_)));refine Xg ?_;exact h.g):p:=h ⟨hq⟩
def O10 (hq:q) (h:Bx q->p:=by intro h;(iterate 10 (first | refine Xs ?_ | (refine Xg ?_;refine Xs ?_)));exact h.g):p:=h ⟨hq⟩
def V10 (hq:q) (h:Bx q->p:=by intro h;(iterate 10 (first | refine Xs ?_ | (refine Xg ?_;refine Xs ?_)));refine Xg ?_;exact h.g):p:=h ⟨hq⟩
def O11 (hq:q) (h:Bx q->p:=by intro h;(iterate 11 (first | refine Xs ?_ | (refine Xg ?_;refine Xs ?_)));exact h.g):p:=h ⟨hq⟩
def V12 (hq:q) (h:Bx q->p:=by intro h;(iterate 12 (first | refine Xs ?_ | (refine Xg ?_;refine Xs ?_)));refine Xg ?_;exact h.g):p:=h ⟨hq⟩
def V13 (hq:q) (h:Bx q->p:=by intro h;(iterate 13 (first | refine Xs ?_ | (refine Xg ?_;refine Xs ?_)));refine Xg ?_;exact h.g):p:=h ⟨hq⟩
def V14 (hq:q) (h:Bx q->p:=by intro h;(iterate 14 (first | refine Xs ?_ | (refine Xg ?_;refine Xs ?_)));refine Xg ?_;exact h.g):p:=h ⟨hq⟩
def V15 (hq:q) (h:Bx q->p:=by intro h;(iterate 15 (first | refine Xs ?_ | (refine Xg ?_;refine Xs ?_)));refine Xg ?_;exact h.g):p:=h ⟨hq⟩
def V0 {p q:Prop} (hq:q) (h:Bx q->p:=by intro h;refine Xg ?_;exact h.g):p:=h ⟨hq⟩
def Zz (hq:q) (h:Bx q->p:=by intro h;(repeat (first | refine Xs ?_ | (refine Xg ?_;refine Xs ?_)));refine Xg ?_;exact h.g):p:=h ⟨hq⟩
def zP (h:Bx q->p:=by intro h;refine Zz ?_;exact h.g):Bx q->p:=h
section
variable {p:Prop} {P:Program} {r:Option Nat} {n:Nat} {ops:AO} {Q:Post} {rest l:LO} {σ:St} {w:Wd} {ty:Td} {pos:String} {after:Array Edge} {w0:Wd} {S:NP} {rs:List HP} {put:HP->List HP} {d t:Nat}
def Cz {φ:Prop} [Decidable φ] {c:Od} {x y:Code} (ht:φ->FW P r n x Q σ w) (hf: ¬φ->FW P r n y Q σ w) (z:Bx (FW P r n (.cond c x y) Q σ w)->p:=by exact zP) (hc:evF σ c=.bool (decide φ):=by exact rfl):p:=z ⟨aga hc ht hf⟩
def Sz {φ:Prop} [Decidable φ] (h1:φ->FL P r n ops Q (⟨dst,op,ty,pos,after,some (j,b)⟩::rest) (upd σ t (.bool true)) w) (h0: ¬φ->FL P r n ops Q (⟨dst,op,ty,pos,after,some (j,b)⟩::rest) (upd σ t (.bool false)) w)
    (z:Bx (FL P r n ops Q (⟨dst,op,ty,pos,after,some (j,b)⟩::rest) σ w)->p:=by exact zP) (hj:(ops[j]?).bind (λo:Oper=>o.dst)=some t:=by exact rfl) (hb:σ.get t=.bool (decide φ):=by exact rfl):p:=z ⟨afb hb h1 h0⟩
def Kz {f:FuncId} {xs:List Od} {ats:Array Td} {vals:LV} (hc:Rk P f vals w v) (h: ∀w',Sep w0 S rs w'->Kept noB w w'->FL P r n ops Q rest (upd σ d v) w')
    (z:Bx (FL P r n ops Q (⟨some d,.call {callee:=.value (.func f),args:=xs.toArray,argTypes:=ats},ty,pos,after,none⟩::rest) σ w)->p:=by exact zP) (H:Sep w0 S rs w:=by assumption) (hv:xs.map (evF σ)=vals:=by exact rfl) (hd:Nat.blt d n=true:=by exact rfl) (he:qz P f:=by exact eT):p:=z ⟨XK H hc hv hd h⟩
def Nz {f:FuncId} {xs:List Od} {ats:Array Td} {vals:LV} {α:Type} {val:α->Value} {φ:α->Prop} {q:α->HP} (hc:aQ P f vals w λv w'=>∃x,v=val x/\φ x/\Turn noB (q x) w w') (h: ∀x w',φ x->Sep w0 S (q x::rs) w'->Kept noB w w'->FL P r n ops Q rest (upd σ d (val x)) w')
    (z:Bx (FL P r n ops Q (⟨some d,.call {callee:=.value (.func f),args:=xs.toArray,argTypes:=ats},ty,pos,after,none⟩::rest) σ w)->p:=by exact zP) (H:Sep w0 S rs w:=by assumption) (hv:xs.map (evF σ)=vals:=by exact rfl) (hd:Nat.blt d n=true:=by exact rfl) (he:qz P f:=by exact eT):p:=z ⟨GL H hc hv hd h⟩
def Az {zv:Value} [hz:Zero P T zv] {cs:LV} (h: ∀b w',Sep w0 S (blk b cs T::rs) w'->Kept noB w w'->FL P r n ops Q rest (upd σ d (.pointer (some ⟨b,0,none⟩))) w') (z:Bx (FL P r n ops Q (⟨some d,.alloc T,ty,pos,after,none⟩::rest) σ w)->p:=by exact zP)
    (H:Sep w0 S rs w:=by assumption) (hcs:zv.cells=cs.toArray:=by exact rfl) (hd:Nat.blt d n=true:=by exact rfl):p:=z ⟨Ny H hcs hd h⟩
def Uz {b o:Nat} [h1:OneCell P T] {cs cs':LV} {E:Td} (h: ∀w',Sep w0 S (put (blk b cs' E)) w'->FL P r n ops Q rest σ w') (z:Bx (FL P r n ops Q (⟨none,.store T x y,ty,pos,after,none⟩::rest) σ w)->p:=by exact zP)
    (H:Sep w0 S rs w:=by assumption) (hx:evF σ x=.pointer (some ⟨b,o,none⟩):=by exact rfl) (hy:evF σ y=v:=by exact eV) (hv:v.oneCell'=true:=by exact rfl)
    (hat:At rs (blk b cs E) put:=by exact aT) (ho:Nat.blt o cs.length=true:=by exact rfl) (hs:cs.set o v=cs':=by first | (simp only[zdf,zfq];rfl) | exact rfl):p:=z ⟨sK H hx hy hv hat ho hs h⟩
def Dz {id:Nat} {lo:LO} (h:dX n lo.toArray=true->∀w',Sep w0 S rs w'->FG P r n lo.toArray Q (List.replicate lo.length false) [] σ w') (z:Bx (FW P r n (.region id lo.toArray true) Q σ w)->p:=by exact zP) (H:Sep w0 S rs w:=by assumption) (hm:P.follows .mixedOrders=true:=by exact rfl) (fB:dX n lo.toArray=true:=by kernel_rfl):p:=z ⟨ah4 hm H fB h⟩
end
variable {R:Value->Wd->Prop}
section
variable {P:Program} {r:Option Nat} {n:Nat} {ops:AO} {Q:Post} {rest:LO} {σ:St} {w w0:Wd} {S:NP} {rs:List HP} {put:HP->List HP} {ty:Td} {pos:String} {after:Array Edge}
theorem R6 {α:Type} {g:Od} {p:Tmp} {assign body:Code} {gf:FuncId} {lb:LV} (enc:α->Value) (xs:List α) (J:List α->HP) (L:List α->α->HP) (Fr0:List HP) (H:Sep w0 S (J []::Fr0) w)
    (hg:evF σ g=.func (.func gf) #[] lb.toArray) (hp:Nat.blt p n=true)
    (ajv: ∀(l D:Nat) (ro rb:Obj) (pre:List α) (x:α) (Fr:List HP) (W:Wd),pre++[x]<+:xs->Sep w0 S (obj l ro::obj D (.deferred (some []))::J pre::Fr) W->
      FW P (some l) n assign (Mh λτ W'=>∃ex:List HP,Sep w0 S (obj l ro::obj D (.deferred (some []))::(ex++J pre::Fr)) W'/\
        ∀W'',Sep w0 S (obj l rb::obj D (.deferred (some []))::(ex++J pre::Fr)) W''->FW P (some l) n body (aaS (λW3=>Sep w0 S (obj l rb::obj D (.deferred (some []))::J (pre++[x])::Fr) W3) (λW3=>Sep w0 S [obj l rb,obj D (.deferred (some [])),L pre x] W3)) τ W'') (upd ⟨σ.get,[]⟩ p (enc x)) W)
    (ajw: ∀(l D:Nat) (ro rj:Obj) (W:Wd),Sep w0 S (obj l ro::obj D (.deferred (some []))::J []::Fr0) W->
      (∀(pre:List α) (x:α) (Fr:List HP) (W:Wd),pre++[x]<+:xs->Sep w0 S (obj l ro::obj D (.deferred (some []))::J pre::Fr) W->UQ P l [enc x] W λb W'=>if b=true then Sep w0 S (obj l ro::obj D (.deferred (some []))::J (pre++[x])::Fr) W' else Sep w0 S [obj l rj,obj D (.deferred (some [])),L pre x] W')->
      aQ P gf (.func (.yield l) #[] #[]::lb) W λ_ W'=>Sep w0 S [obj l ro,obj D (.deferred (some [])),J xs] W'\/∃pre x,pre++[x]<+:xs/\Sep w0 S [obj l rj,obj D (.deferred (some [])),L pre x] W')
    (CW: ∀(D:Nat) (W:Wd),Sep w0 S [obj D (.deferred (some [])),J xs] W->Q .normal ⟨σ.get,{target:=.collected D,args:= #[]}::σ.ds⟩ W)
    (aqx: ∀(D:Nat) (W:Wd) (pre:List α) (x:α),pre++[x]<+:xs->Sep w0 S [obj D (.deferred (some [])),L pre x] W->Q .ret ⟨σ.get,{target:=.collected D,args:= #[]}::σ.ds⟩ W) (he:qz P gf:=by exact eT):
    FW P none n (.rangeFunc g #[p] assign body) Q σ w:=by
  intro a ha;refine wpIn_rangeFunc λfn hfn=>?_
  let rec_:LoopState->Obj:=λst=>acK st fn a.tmps #[p] assign body w.heap.size
  let recj:Obj:=.loop {state:=.done,pending:=some .ret,fn:=fn,tmps:=a.tmps,params:= #[p],assign:=assign,body:=body,defers:=w.heap.size}
  obtain⟨W1,hW1⟩: ∃W1,(w.alloc (.deferred (some []))).alloc (rec_ .ready)=W1:=⟨_,rfl⟩
  have k:Sep w0 S (obj (w.heap.size+1) (rec_ .ready)::obj w.heap.size (.deferred (some []))::J []::Fr0) W1:=by
    have h1:=(H.alloc (.deferred (some []))).alloc (rec_ .ready);rw[World.size_alloc]at h1;rw[<-hW1];exact h1
  refine⟨w.heap.size+1,[{target:=.collected w.heap.size,args:= #[]}],W1,{target:=.fn (.func gf) lb.toArray,args:= #[.func (.yield (w.heap.size+1)) #[] #[]]},W1,gf,
    #[.func (.yield (w.heap.size+1)) #[] #[]]++lb.toArray,W1,?_,?_,λ_ _=>trivial,?_,(λh=>by cases h),?_⟩
  . rw[<-hW1];exact run_enterLoop_outer _ _ _ _ _
  . rw[ha.eval]
    simp only[resolve,hg,Deferred.ofValue];simp[evF]
  . simp[invoke,he.run]
  have an9:=ajw (w.heap.size+1) w.heap.size (rec_ .ready) recj W1 k (λpre x Fr W jI HW=>?_)
  . have e:(#[.func (.yield (w.heap.size+1)) #[] #[]]++lb.toArray:Array Value)=(Value.func (.yield (w.heap.size+1)) #[] #[]::lb).toArray:=sM
    rw[e];refine rD none (Calls.mono an9 λen W3 hr=>?_);cases en with
    | returned v=>
      rcases hr with hr | ⟨pre,x,jI,hr⟩
      . have hl:=Sep.obj hr At0
        refine⟨none,_,run_endLoop hl sM,?_⟩;refine⟨⟨σ.get,{target:=.collected w.heap.size,args:= #[]}::σ.ds⟩,⟨ha.size,?_,ha.get⟩,CW w.heap.size _ ?_⟩
        . show [_]++a.defers=_
          rw[ha.defers];rfl
        exact(Sep.Yq hr).bI
      have hl:=Sep.obj hr At0;refine⟨some .ret,_,run_endLoop hl sM,?_⟩;refine wpIn_ret ⟨⟨σ.get,{target:=.collected w.heap.size,args:= #[]}::σ.ds⟩,⟨ha.size,?_,ha.get⟩,aqx w.heap.size _ pre x jI ?_⟩
      . show [_]++a.defers=_
        rw[ha.defers];rfl
      exact(Sep.Yq hr).bI
    | _=>exact hr.elim

  have hl:=Sep.obj HW At0;refine⟨fn,_,assign,body,run_yield hl sM,?_⟩;refine roundIn_of_wpIn (F:=fen none) trivial ?_;have hb:=ajv (w.heap.size+1) w.heap.size (rec_ .ready) (rec_ .busy) pre x Fr W jI HW
  have Zj:Rep n (upd ⟨σ.get,[]⟩ p (enc x)) {tmps:=((#[p].zip [enc x].toArray).foldl (λtmps (t,a)=>tmps.setIfInBounds t a) a.tmps),defers:=[]}:=by
    have h0:Rep n ⟨σ.get,[]⟩ {tmps:=a.tmps,defers:=[]}:=⟨ha.size,rfl,ha.get⟩;have h1:=h0.put (zbe hp) (enc x);simpa[Act.put]using h1
  refine Go.wpIn_mono (hb _ Zj) λen a1 W1' ⟨τ,hτ,hq⟩=>?_;cases en with
  | normal=>
    obtain⟨ex,HW1,hB⟩:=hq;have hl1:=Sep.obj HW1 At0;refine⟨_,run_beginRound hl1 rfl,?_⟩;refine Go.wpIn_mono (hB _ (Sep.Yq HW1) a1 hτ) λen a2 W2 ⟨τ2,hτ2,qD⟩=>?_;cases en with
    | normal=>
      have hl2:=Sep.obj (show Sep w0 S _ W2 from qD) At0;exact⟨_,_,run_endRound none hl2,true,rfl,by show ite (true=true) _ _;rw[zac rfl];exact Sep.Yq qD⟩
    | ret=>
      have hl2:=Sep.obj (show Sep w0 S _ W2 from qD) At0;exact⟨_,_,run_endRound (some .ret) hl2,false,rfl,by show ite (false=true) _ _;rw[zaa dC];exact Sep.Yq qD⟩
    | _=>exact qD.elim
  | _=>exact hq.elim
def tO {fn:Func} {tmps:Array Value} {R:Ending->Wd->Prop}: ∀(ds:List Deferred) (w:Wd),Goes ds w (λw'=>∃v,(results fn tmps).run P w'=.ok v w'/\R (.returned v) w')->LeavesInM (fen none) 0 P fn tmps R ds .returning w
 | [],w,⟨v,hr,h⟩=>⟨v,hr,h⟩
 | d::ds,w,⟨D,ht,hh,hg⟩=>⟨(λe=>by cases e),.inl ⟨D,_,ht,run_takeDeferred hh,tO ds _ hg⟩⟩
def goes_mono {R R':Wd->Prop} (h: ∀w,R w->R' w): ∀{ds:List Deferred} {w:Wd},Goes ds w R->Goes ds w R'
 | [],_,hg=>h _ hg
 | _::_,_,⟨D,ht,hh,hg⟩=>⟨D,ht,hh,goes_mono h hg⟩
def ang (P:Program) (l:List ResultVar) (R:Value->Wd->Prop):Post:=λe σ w=>match e with
 | .normal | .ret=>Goes σ.ds w λw'=>∃vs,qQ P σ w' l vs/\R (fJ vs) w'
 | _=>False
def GV {l:List ResultVar} (h: ∃vs,qQ P σ w l vs/\R (fJ vs) w) (hd:σ.ds=[]:=by exact rfl):ang P l R .ret σ w:=by
 show Goes σ.ds w _
 rw[hd];exact h
def zx {l:List ResultVar} {D:Nat} (H:Sep w0 S rs w) (hat:At rs (Mw.obj D (.deferred (some []))) put) (hR: ∀w',Sep w0 S (put (Mw.obj D (.deferred none))) w'->∃vs,qQ P σ w' l vs/\R (fJ vs) w')
    (hd:σ.ds=[{target:=.collected D,args:= #[]}]:=by exact rfl):ang P l R .ret σ w:=by
  show Goes σ.ds w _
  rw[hd];have hD:=H.obj hat;have aX:=mg hD;exact⟨D,rfl,hD,hR _ (H.setObj hat ⟨rfl,rfl,rfl,sM,λk _ hS=>by simp only;rw[zez (λe=>hS e.symm)]⟩ (by simp[aX]))⟩
def aiv {f:FuncId} {fn:Func} {l:List ResultVar} {a0:Value}
    (hf:P.funcs[f]? =some fn) (h:FW P none n c (ang P l R) (upd und 0 a0) w) (q:FnB fn c n l 1:=by exact⟨rfl,rfl,rfl,rfl⟩):aQ P f [a0] w R:=
  FC (args:=[a0]) hf q.x q.y q.u (λe s a w' hs hq=>by
    cases e with
    | normal=>exact⟨.inl rfl,tO _ _ (goes_mono (λH ⟨vs,h1,h2⟩=>⟨_,uH hs.get q.z h1,h2⟩) hq)⟩
    | ret=>exact⟨.inr rfl,tO _ _ (goes_mono (λH ⟨vs,h1,h2⟩=>⟨_,uH hs.get q.z h1,h2⟩) hq)⟩
    | _=>exact hq.elim) h
end
abbrev Ent:=L8×Value
def mq (D:List Ent) (k:L8):Option Value:=(D.find? λp=>p.1==k).map (·.2)
def Bh (D:List Ent) (k:L8) (v:Value):List Ent:=if(mq D k).isSome=true then D.map (λp=>if p.1=k then(k,v)else p)else D++[(k,v)]
def YC (D:List Ent) (k:L8):List Ent:=D.filter λp=> !(p.1==k)
def apd:Value->L8
 | .string a=>a.data.toList
 | _=>[]
def kvE (e:MapEntry):Ent:=(apd e.key,e.val)
structure OC (es:List MapEntry) (clock:Nat) (D:List Ent):Prop where
 keys:oC es
 data:es.map kvE=D
 nd:(D.map (·.1)).Nodup
 born:(es.map (·.born)).Nodup
 old: ∀e∈es,e.born<clock
def OD {e:MapEntry} {k:L8} (h: ∃a,e.key=.string a):jc ⟨k.toArray⟩ e=((kvE e).1==k):=by
 obtain⟨a,ha⟩:=h;unfold jc kvE;rw[ha];show(a==⟨k.toArray⟩)=(a.data.toList==k)
 rw[OB,zdu];simp only[beq_iff_eq];constructor
 .intro h;rw[h]
 intro h;rw[<-h]
def Mk {k:L8}: ∀{es:List MapEntry},oC es->o8 es ⟨k.toArray⟩=mq (es.map kvE) k
 | [],_=>rfl
 | e::es,h=>by
  have ih:=Mk (k:=k) (es:=es) λx hx=>h x (zau _ hx);have h1:=OD (k:=k) (h e zao);unfold o8 mq at ih ⊢;rw[zav,zch,zch,h1];cases hb:(kvE e).1==k with
  | true=>rfl
  | false=>exact ih
variable {k:L8} {D:List Ent}
def DI:mq D k=none↔k∉D.map (·.1):=by
 unfold mq;rw[zfn,zfp];constructor
 .intro h hm
  obtain⟨p,hp,rfl⟩:=zar.1 hm;exact h p hp (beq_self_eq_true _)
 intro h p hp he;exact h (zar.2 ⟨p,hp,eq_of_beq he⟩)
def aiw (h:mq D k=some v):(k,v)∈D:=by
 unfold mq at h;obtain⟨p,hp,rfl⟩:=zbc.1 h;have h1:=zev hp;have h2:=List.find?_some hp;rw[<-eq_of_beq h2];exact h1
def afq:(Bh D k v).map (·.1)=if k∈D.map (·.1)then D.map (·.1)else D.map (·.1)++[k]:=by
  unfold Bh
  by_cases h:k∈D.map (·.1)
  . have h1:(mq D k).isSome=true:=by
      rw[Option.isSome_iff_ne_none];exact λe=>DI.1 e h
    rw[zac h1,zac h,zdj];refine zcr λp _=>?_;show(if p.1=k then(k,v)else p).1=p.1
    split
    . rename_i e;exact e.symm
    rfl
  have h1: ¬(mq D k).isSome=true:=by
    rw[DI.2 h];simp
  rw[zaa h1,zaa h,zak];rfl
def acT (h:(D.map (·.1)).Nodup):((Bh D k v).map (·.1)).Nodup:=by
 rw[afq]
 split
 .exact h
 rename_i hk;rw[zep];exact⟨h,sM,λa ha b hb e=>by rw[zaw]at hb;subst hb;subst e;exact hk ha⟩
def aix {i:L8}:mq (Bh D k v) i=if i=k then some v else mq D i:=by
 unfold Bh
 by_cases h:(mq D k).isSome=true
 .rw[zac h]
  by_cases hi:i=k
  .subst hi
   rw[zac rfl]
   induction D with
   | nil=>cases h
   | cons p D ih=>
    unfold mq at h ih ⊢;rw[zav,zch]
    by_cases hp:p.1=i
    .rw[zac hp];simp
    rw[zaa hp,show(p.1==i)=false from beq_eq_false_iff_ne.2 hp];rw[zch,show(p.1==i)=false from beq_eq_false_iff_ne.2 hp]at h;exact ih h
  rw[zaa hi];clear h
  induction D with
  | nil=>rfl
  | cons p D ih=>
   unfold mq at ih ⊢;rw[zav,zch,zch]
   by_cases hp:p.1=k
   .rw[zac hp,show((k,v).1==i)=false from beq_eq_false_iff_ne.2 λe=>hi e.symm,show(p.1==i)=false from beq_eq_false_iff_ne.2 λe=>hi (e.symm.trans hp)]
    exact ih
   rw[zaa hp];cases p.1==i with
   | true=>rfl
   | false=>exact ih
 rw[zaa h];have hn:mq D k=none:=by simpa using h
 unfold mq at hn ⊢;rw[List.find?_append]
 by_cases hi:i=k
 .subst hi
  rw[zac rfl];rw[zfn]at hn;rw[hn];simp
 rw[zaa hi]
 have :([(k,v)]:List Ent).find? (λp=>p.1==i)=none:=by
  rw[zch,show((k,v).1==i)=false from beq_eq_false_iff_ne.2 λe=>hi e.symm];rfl
 rw[this,Option.or_none]
def ak0 (h:(D.map (·.1)).Nodup):((YC D k).map (·.1)).Nodup:=h.sublist (List.filter_sublist.map _)
def gV (b:Nat) (D:List Ent):HP:=exH λx:Array MapEntry×Nat=>star (obj b (.map x.1 x.2)) (jk (OC x.1.toList x.2 D))
section
variable {w0 w w':Wd} {S:NP} {rs:List HP} {put:HP->List HP} {P:Program} {D:List Ent} {b:Nat}
def DJ {F:NP}:(gV b D).ok F w↔(∀x,F x↔x=b)/\∃es clock,w.heap[b]? =some (.map es clock)/\OC es.toList clock D:=by
 constructor
 .rintro⟨⟨es,c⟩,F1,F2,hF,hd,⟨h1,h2⟩,⟨h3,h5⟩⟩
  refine⟨λx=>?_,es,c,h2,h3⟩;rw[hF,h1];exact⟨λh=>h.elim id λh=>(h5 x h).elim,.inl⟩
 rintro⟨h1,es,c,h2,h3⟩;exact⟨⟨es,c⟩,F,λ_=>False,λx=>sM,λ_ _ h=>h,⟨h1,h2⟩,⟨h3,λ_ h=>h⟩⟩
def Sep.U0 (h:Sep w0 S rs w) (hat:At rs (gV b D) put): ∃es clock,w.heap[b]? =some (.map es clock)/\OC es.toList clock D:=by
 obtain⟨F,hp,_,_⟩:=h.focus hat;exact(DJ.1 hp).2
def Sep.U1 (h:Sep w0 S rs w) (hat:At rs (Mw.obj b (Obj.map #[] 0)) put):Sep w0 S (put (gV b [])) w:=
 h.imp hat λF hF=>DJ.2 ⟨hF.1, #[],0,hF.2,⟨by simp[oC],rfl,sM,sM,sM⟩⟩
def Sep.ape (h:Sep w0 S rs w) (hat:At rs (gV b D) put):(D.map (·.1)).Nodup:=by
 obtain⟨es,c,_,hm⟩:=h.U0 hat;exact hm.nd
def nN {k e:Td} [hm:IsMap P T k e] [hk:lX P k] {z:Value} [hz:Zero P e z] {i:L8}
    (H:Sep w0 S rs w) (hat:At rs (gV b D) put) (hx:ρ x=.map (some b)) (hy:ρ y=str i):Gives P ρ (.lookup T x y false) ty w ((mq D i).getD z) w:=by
  obtain⟨es,c,hb,yJ⟩:=H.U0 hat;have:=Cm (P:=P) (ty:=ty) (T:=T) (i:=⟨i.toArray⟩) hb yJ.keys (λ_=>rfl) hx hy;rw[Mk yJ.keys,yJ.data]at this;exact this
def Sep.U2 {D':List Ent} {es':Array MapEntry} {c':Nat} (H:Sep w0 S rs w) (hat:At rs (gV b D) put) (h:OC es'.toList c' D'):Sep w0 S (put (gV b D')) {w with heap:=w.heap.setIfInBounds b (.map es' c')}:=by
  obtain⟨F,hp,_,lG⟩:=H.focus hat;obtain⟨hF,es,c,hb,yJ⟩:=DJ.1 hp;have ajt:=mg hb
  exact lG _ F _ ⟨rfl,rfl,rfl,sM,λj hj hFj=>by simp only[zbx];rw[zaa (λe=>hFj ((hF j).2 e.symm))]⟩
      (DJ.2 ⟨hF,es',c',by simp[ajt],h⟩) λb hb=>.inl hb
def afr (k:L8) (v:Value): ∀(es:List MapEntry) (j:Nat) (e:MapEntry),es[j]? =some e->(kvE e).1=k->((es.map kvE).map (·.1)).Nodup->
    (es.modify j λe=>{e with key:=str k,val:=v}).map kvE=(es.map kvE).map λp=>if p.1=k then(k,v)else p:=by
  intro es
  induction es with
  | nil=>intro j e h;simp at h
  | cons x es ih=>
    intro j e hj nW hn;rw[zav,zav,zfa]at hn;cases j with
    | zero=>
      simp at hj;subst hj;rw[List.modify_zero_cons,zav,zav,zav,zac nW]
      have Ja:(es.map kvE).map (λp=>if p.1=k then(k,v)else p)=es.map kvE:=by
        conv=>rhs;rw[<-List.map_id (es.map kvE)]
        refine zcr λp hp=>?_;rw[zaa (λe=>hn.1 (by rw[nW,<-e];exact zar.2 ⟨p,hp,rfl⟩))];rfl
      rw[Ja];rfl
    | succ j=>
      rw[List.modify_succ_cons,zav,zav,zav];simp only[zcm]at hj;have uK:(kvE e).1∈(es.map kvE).map (·.1):=zar.2 ⟨kvE e,zar.2 ⟨e,zag hj,rfl⟩,rfl⟩;rw[zaa (λh=>hn.1 (by rw[h,<-nW];exact uK)),ih j e hj nW hn.2]
def Bf {ty:Td} {T k e:Td} [hm:IsMap P T k e] [hk:lX P k] {i:L8}
    (H:Sep w0 S rs w) (hat:At rs (gV b D) put) (hx:ρ x=.map (some b)) (hy:ρ y=str i) (hz:ρ z=v):
    ∃w',PE P ρ (.mapUpdate T x y z) ty w w'/\Sep w0 S (put (gV b (Bh D i v))) w':=by
  obtain⟨es,c,hb,yJ⟩:=H.U0 hat;obtain⟨r,h1,h2,h3⟩:=oZ (P:=P) (w:=w) hk.und ⟨i.toArray⟩ es.toList yJ.keys;have dN:=nV (P:=P) (w:=w) hk.und false ⟨i.toArray⟩ 9999;have xk: ∀o:Obj,(setObj b o).run P w=.ok () {w with heap:=w.heap.setIfInBounds b o}:=λo=>by simp[Go.setObj,Sem.run,hb]
  have Fy:ρ y=.string ⟨i.toArray⟩:=hy;rw[Mk yJ.keys,yJ.data]at h2;cases r with
  | none=>
    refine⟨{w with heap:=w.heap.setIfInBounds b (.map (es.push {key:=.string ⟨i.toArray⟩,val:=v,born:=c}) (c+1))},λ_ _ _ _=>?_,H.U2 hat ⟨?_,?_,acT yJ.nd,?_,?_⟩⟩
    . simp only[execOp,hx,Fy,hz,Instr.mapUpdate,zbj,run_underlying hm.und,zan,iX hb]
      rw[dN];simp only[zan,h1,xk,zbl]
    . intro e he
      simp at he
      rcases he with he | he
      . exact yJ.keys e (by simpa using he)
      exact⟨_,by rw[he]⟩
    . have h0:mq D i=none:=by rw[<-h2];rfl
      rw[zfu,zak,yJ.data];unfold Bh;rw[zaa (by rw[h0];simp)];rfl
    . rw[zfu,zak,zep]
      refine⟨yJ.born,sM,λa ha d hd e=>?_⟩;obtain⟨x,hx,rfl⟩:=zar.1 ha;simp at hd;have:=yJ.old x hx;omega
    intro e he;rw[zfu,zbk,zaw]at he
    rcases he with he | rfl
    . have:=yJ.old e he;omega
    exact zfl _
  | some jv=>
    obtain⟨j,u⟩:=jv;obtain⟨e,he,nW,aX⟩:=h3 j u rfl;have hek:=yJ.keys e (zag he)
    have hei:(kvE e).1=i:=by
      rw[OD hek]at nW;exact eq_of_beq nW
    have atU:e.key=.string ⟨i.toArray⟩:=by
      obtain⟨a,ha⟩:=hek;rw[ha];unfold kvE at hei;rw[ha]at hei;rw[J6 a,show a.data.toList=i from hei];rfl
    have A8:(((es[j]?).map (·.key)).getD (.string ⟨i.toArray⟩))=.string ⟨i.toArray⟩:=by
      have :es[j]? =some e:=by simpa using he
      rw[this];simp[atU]
    have aju:(Instr.keyThatStays (.string ⟨i.toArray⟩) (.string ⟨i.toArray⟩)).run P w=.ok (.string ⟨i.toArray⟩) w:=by simp[Instr.keyThatStays,Instr.sameBits]
    have YZ:(es.modify j λe=>{e with key:=str i,val:=v}).toList.map (·.born)=es.toList.map (·.born):=by
      rw[zfh];refine zey λm=>?_;simp only[zbz,List.getElem?_modify];cases nX:es.toList[m]? with
      | none=>rfl
      | some x=>simp only[zdv];split<;>rfl
    refine⟨{w with heap:=w.heap.setIfInBounds b (.map (es.modify j λe=>{e with key:=.string ⟨i.toArray⟩,val:=v}) c)},λ_ _ _ _=>?_,H.U2 hat ⟨?_,?_,acT yJ.nd,by exact YZ▸yJ.born,?_⟩⟩
    . simp only[execOp,hx,Fy,hz,Instr.mapUpdate,zbj,run_underlying hm.und,zan,iX hb]
      rw[dN];simp only[zan,h1,A8,aju,xk,zbj,zbl]
    . intro e' he'
      simp only[zfh]at he';obtain⟨m,nX,rfl⟩:=List.mem_iff_getElem.1 he';rw[List.getElem_modify]
      split
      . exact⟨_,rfl⟩
      exact yJ.keys _ (List.getElem_mem _)
    . have h0:mq D i=some u:=by rw[<-h2];rfl
      unfold Bh;rw[zac (by rw[h0];rfl),<-yJ.data,zfh];exact afr i v _ j e he hei (by rw[yJ.data];exact yJ.nd)
    intro x hx;have :x.born∈(es.modify j λe=>{e with key:=str i,val:=v}).toList.map (·.born):=zar.2 ⟨x,hx,rfl⟩;rw[YZ]at this;obtain⟨y,hy,e⟩:=zar.1 this;rw[<-e];exact yJ.old y hy
def Qd {ty:Td} {T U k e:Td} [hm:IsMap P T k e] [hk:lX P k] {i:L8}
    (H:Sep w0 S rs w) (hat:At rs (gV b D) put) (hx:ρ x=.map (some b)) (hy:ρ y=str i):
    ∃w',Gives P ρ (.call {callee:=.builtin .delete,args:= #[x,y],argTypes:= #[T,U]}) ty w (.tuple #[]) w'/\Sep w0 S (put (gV b (YC D i))) w':=by
  obtain⟨es,c,hb,yJ⟩:=H.U0 hat;obtain⟨r,h1,h2,h3⟩:=oZ (P:=P) (w:=w) hk.und ⟨i.toArray⟩ es.toList yJ.keys;have dN:=nV (P:=P) (w:=w) hk.und es.isEmpty ⟨i.toArray⟩ 9999;have xk: ∀o:Obj,(setObj b o).run P w=.ok () {w with heap:=w.heap.setIfInBounds b o}:=λo=>by simp[Go.setObj,Sem.run,hb]
  have Fy:ρ y=.string ⟨i.toArray⟩:=hy;rw[Mk yJ.keys,yJ.data]at h2;cases r with
  | none=>
    have h0:mq D i=none:=by rw[<-h2];rfl
    have hd:YC D i=D:=by
      unfold YC;rw[zeq];intro p hp;have:=DI.1 h0;have h5:(p.1==i)=false:=beq_eq_false_iff_ne.2 λe=>this (zar.2 ⟨p,hp,e⟩);rw[h5];rfl
    refine⟨{w with heap:=w.heap.setIfInBounds b (.map es c)},λ_ _ _ _=>?_,H.U2 hat (by rw[hd];exact yJ)⟩;simp only[execOp,resolve,invoke,builtin,zce,zav,zci,hx,Fy,Builtin.delete_,zbj,zbl,zan,List.getElem?_toArray,zca,zcm,run_underlying hm.und,iX hb];rw[dN];simp only[zan,h1,zbj,xk,zbl]
  | some jv=>
    obtain⟨j,u⟩:=jv;obtain⟨e,he,nW,aX⟩:=h3 j u rfl;have hek:=yJ.keys e (zag he)
    have hei:(kvE e).1=i:=by
      rw[OD hek]at nW;exact eq_of_beq nW
    have Tv:j<es.toList.length:=(zax.1 he).1
    have iC:(es.eraseIdxIfInBounds j).toList=es.toList.eraseIdx j:=by
      rw[Array.eraseIdxIfInBounds];rw[dif_pos (by simpa using Tv),Array.toList_eraseIdx]
    refine⟨{w with heap:=w.heap.setIfInBounds b (.map (es.eraseIdxIfInBounds j) c)},λ_ _ _ _=>?_,H.U2 hat ⟨?_,?_,ak0 yJ.nd,?_,?_⟩⟩
    . simp only[execOp,resolve,invoke,builtin,zce,zav,zci,hx,Fy,Builtin.delete_,zbj,zbl,zan,List.getElem?_toArray,zca,zcm,run_underlying hm.und,iX hb]
      rw[dN];simp only[zan,h1,zbj,xk,zbl]
    . intro x hx
      rw[iC]at hx;exact yJ.keys x ((List.eraseIdx_sublist _ _).subset hx)
    . rw[iC,<-yJ.data]
      have hn:=yJ.nd;rw[<-yJ.data]at hn;clear iC aX h3 h1 h2 dN xk;unfold YC
      revert Tv hn
      generalize es.toList=l at he |-
      intro Tv hn
      induction l generalizing j with
      | nil=>simp at he
      | cons x l ih=>
        rw[zav,zav,zfa]at hn;cases j with
        | zero=>
          simp at he;subst he;rw[List.eraseIdx_cons_zero,zav,zeh];rw[zaa (by rw[hei];simp)];rw[eq_comm,zeq];intro p hp;rw[show(p.1==i)=false from beq_eq_false_iff_ne.2 λe=>hn.1 (by rw[hei,<-e];exact zar.2 ⟨p,hp,rfl⟩)];rfl
        | succ j=>
          simp only[zcm]at he;have uK:(kvE e).1∈(l.map kvE).map (·.1):=zar.2 ⟨kvE e,zar.2 ⟨e,zag he,rfl⟩,rfl⟩;rw[List.eraseIdx_cons_succ,zav,zav,zeh];rw[show((kvE x).1==i)=false from beq_eq_false_iff_ne.2 λh=>hn.1 (by rw[h,<-hei];exact uK)];show _=kvE x::List.filter (λp=> !(p.1==i)) (List.map kvE l)
          rw[ih j he (by simpa using Tv) hn.2]
    . rw[iC]
      exact yJ.born.sublist ((List.eraseIdx_sublist _ _).map _)
    intro x hx;rw[iC]at hx;exact yJ.old x ((List.eraseIdx_sublist _ _).subset hx)
def vU (r b:Nat) (D L:List Ent):HP:=exH λx:Array MapEntry×Nat×Array Nat=>star (star (obj b (.map x.1 x.2.1)) (obj r (.mapIter (some b) x.2.1 x.2.2 x.2.1))) (jk (OC x.1.toList x.2.1 D/\((leftOf x.1 x.2.2).toList.map kvE).Perm L))
def U3 (r b:Nat) (D L:List Ent) (p:Ent):HP:=exH λx:Array MapEntry×Nat×Array Nat×MapEntry=>star (star (obj b (.map x.1 x.2.1)) (obj r (.mapIter (some b) x.2.1 (x.2.2.1.push x.2.2.2.born) x.2.1)))
 (jk ((OC x.1.toList x.2.1 D/\((leftOf x.1 (x.2.2.1.push x.2.2.2.born)).toList.map kvE).Perm L)/\x.2.2.2∈x.1.toList/\x.2.2.2.key=str p.1/\x.2.2.2.val=p.2))
variable {r:Nat} {L:List Ent}
def Sep.aiy (H:Sep w0 S rs w) (hat:At rs (vU r b D L) put):Sep w0 S (put (gV b D)) w:=by
 obtain⟨F,⟨⟨es,c,seen⟩,F1,F2,hF,hd,⟨G1,G2,hG,G8,h1,h2⟩,⟨h3,_⟩,h5⟩,_,lG⟩:=H.focus hat;exact lG w G1 _ (Kept.refl _ _) (DJ.2 ⟨h1.1,es,c,h1.2,h3⟩) λx hx=>.inl ((hF x).2 (.inl ((hG x).2 (.inl hx))))
def Sep.U4 {p:Ent} (H:Sep w0 S rs w) (hat:At rs (U3 r b D L p) put):Sep w0 S (put (vU r b D L)) w:=by
 refine H.imp hat λF hF=>?_;obtain⟨⟨es,c,seen,e⟩,F1,F2,hF,hd,h,⟨h3,_⟩,h5⟩:=hF;exact⟨⟨es,c,seen.push e.born⟩,F1,F2,hF,hd,h,h3,h5⟩
def aiz {F:NP} (h:(vU r b D L).ok F w): ∃es c seen,(∀x,F x↔x=b\/x=r)/\b≠r/\w.heap[b]? =some (.map es c)/\w.heap[r]? =some (.mapIter (some b) c seen c)/\OC es.toList c D/\((leftOf es seen).toList.map kvE).Perm L:=by
 obtain⟨⟨es,c,seen⟩,F1,F2,hF,hd,⟨G1,G2,hG,G8,h1,h2⟩,⟨h3,h4⟩,h5⟩:=h;refine⟨es,c,seen,λx=>?_,λe=>G8 b ((h1.1 b).2 rfl) ((h2.1 b).2 e),h1.2,h2.2,h3,h4⟩;rw[hF,hG,h1.1,h2.1];exact⟨λh=>h.elim id λh=>(h5 x h).elim,.inl⟩
def U5 {ty:Td} {T k e:Td} [hm:IsMap P T k e] (H:Sep w0 S rs w) (hat:At rs (gV b D) put) (hx:ρ x=.map (some b)):
    ∃r w',Gives P ρ (.range T x) ty w (.pointer (some ⟨r,0,none⟩)) w'/\Sep w0 S (put (vU r b D D)) w'/\Kept noB w w':=by
  obtain⟨F,hp,_,lG⟩:=H.focus hat;obtain⟨hF,es,c,hb,yJ⟩:=DJ.1 hp;have ajt:=mg hb;refine⟨w.heap.size,w.alloc (.mapIter (some b) c #[] c),λ_ _ _ _=>?_,?_,Kept.alloc _ _⟩
  . simp only[execOp,hx]
    simp only[zbj,run_range_map w T k e b es c hm.und hb,zan,zbl]
  refine lG _ (λx=>x=b\/x=w.heap.size) _ ((Kept.alloc _ _).mono λ_ h=>h.elim) ?_ λx hx=>?_
  . refine⟨⟨es,c, #[]⟩,λx=>x=b\/x=w.heap.size,λ_=>False,λx=>sM,λ_ _ h=>h,⟨λx=>x=b,λx=>x=w.heap.size,λ_=>Iff.rfl,λx h1 h2=>oM,⟨λ_=>Iff.rfl,?_⟩,⟨λ_=>Iff.rfl,heap_alloc_new _ _⟩⟩,⟨yJ,?_⟩,λ_ h=>h⟩
    . show(w.alloc _).heap[b]? =_
      rw[heap_alloc_old _ _ ajt];exact hb
    show((leftOf es #[]).toList.map kvE).Perm D
    unfold leftOf;rw[zgb,zeq.2 (λx _=>sM),yJ.data]
  rcases hx with rfl | rfl
  . exact .inl ((hF _).2 rfl)
  exact .inr (zbi _)
def zy: ∀{l:List MapEntry} {e:MapEntry},(l.map (·.born)).Nodup->e∈l->l.Perm (e::l.filter λx=> !(x.born==e.born))
 | [],_,_,h=>by cases h
 | x::l,e,hn,h=>by
  rw[zav,zfa]at hn
  rcases zbb.1 h with rfl | h
  .rw[zeh,zaa sM]
   rw[zeq.2];intro y hy;rw[show(y.born==e.born)=false from beq_eq_false_iff_ne.2 λh=>hn.1 (by rw[<-h];exact zar.2 ⟨y,hy,rfl⟩)];rfl
  rw[zeh,zac (by rw[show(x.born==e.born)=false from beq_eq_false_iff_ne.2 λh2=>hn.1 (by rw[h2];exact zar.2 ⟨e,h,rfl⟩)];rfl)];exact((zy hn.2 h).cons x).trans (List.Perm.swap e x _)
def LK {ty:Td} (H:Sep w0 S rs w) (hat:At rs (vU r b D L) put) (hx:ρ x=.pointer (some ⟨r,0,none⟩)):
    (L=[]/\Gives P ρ (.next x false) ty w (.tuple #[.bool false]) w)\/
    ∃p L' w',L.Perm (p::L')/\Gives P ρ (.next x false) ty w (.tuple #[.bool true,str p.1,p.2]) w'/\Sep w0 S (put (U3 r b D L' p)) w':=by
  obtain⟨F,hp,_,lG⟩:=H.focus hat;obtain⟨es,c,seen,hF,hbr,hb,hr,yJ,DT⟩:=aiz hp
  rcases run_next_at (P:=P) w ty r b c c seen es c hr hb yJ.old (zbi _)with⟨h0,iw⟩ | ⟨e,he,k,Bn,iw⟩
  . left
    refine⟨?_,λ_ _ _ _=>?_⟩
    . have :(leftOf es seen).toList=[]:=by
        rw[List.eq_nil_iff_length_eq_zero];simpa using h0
      rw[this]at DT;exact List.nil_perm.1 DT
    simp only[execOp,hx];simp only[zbj,iw,zan,zbl]
  right
  obtain⟨heL,hse⟩:=mem_left he;obtain⟨a,ha⟩:=yJ.keys e heL
  have hk:e.key=str (kvE e).1:=by
    unfold kvE;rw[ha];exact J6 a
  have hl':(leftOf es (seen.push e.born)).toList=(leftOf es seen).toList.filter λx=> !(x.born==e.born):=by
    unfold leftOf;rw[zgb,zgb,List.filter_filter];refine List.filter_congr λx _=>?_;rw[contains_push];cases seen.contains x.born<;>cases hxe:(x.born==e.born)<;>simp[hxe]
  have hln:((leftOf es seen).toList.map (·.born)).Nodup:=by
    unfold leftOf;rw[zgb];exact yJ.born.sublist (List.filter_sublist.map _)
  refine⟨kvE e,(leftOf es (seen.push e.born)).toList.map kvE,setBlock k r (.mapIter (some b) c (seen.push e.born) c),?_,λ_ _ _ _=>?_,?_⟩
  . refine DT.symm.trans ?_
    rw[hl',<-zav];exact(zy hln he).map _
  . simp only[execOp,hx]
    rw[hk]at iw;simp only[zbj,iw,zan,zbl];rfl
  have jH:Kept noB w k:=by
    rcases Bn with rfl | rfl
    . exact Kept.refl _ _
    exact Kept.drew _
  have atV:=mg hr;have atW:r<k.heap.size:=Nat.lt_of_lt_of_le atV jH.size;have Fv:k.heap[b]? =some (.map es c):=jH.get hb id
  have cK:Kept F w (setBlock k r (.mapIter (some b) c (seen.push e.born) c)):=by
    refine(jH.mono λ_ h=>h.elim).trans (T:=F) ⟨rfl,rfl,rfl,by simp[setBlock],λj hj hFj=>?_⟩ λi hi=>.inl hi;show(k.heap.setIfInBounds r _)[j]? =_
    simp only[zbx];rw[zaa (λe=>hFj ((hF j).2 (.inr e.symm)))]
  refine lG _ F _ cK ?_ λx hx=>.inl hx;refine⟨⟨es,c,seen,e⟩,F,λ_=>False,λx=>sM,λ_ _ h=>h,⟨λx=>x=b,λx=>x=r,hF,λx h1 h2=>hbr (h1.symm.trans h2),⟨λ_=>Iff.rfl,?_⟩,⟨λ_=>Iff.rfl,?_⟩⟩,⟨⟨yJ,List.Perm.refl _⟩,heL,hk,rfl⟩,λ_ h=>h⟩
  . show(k.heap.setIfInBounds r _)[b]? =_
    rw[zbx,zaa (λe=>hbr e.symm)];exact Fv
  show(k.heap.setIfInBounds r _)[r]? =_
  rw[zbx,zac rfl,zac atW]
def Gives.aa4 {p:Ent} (H:Sep w0 S rs w) (hat:At rs (U3 r b D L p) put) (hx:ρ x=.pointer (some ⟨r,0,none⟩)):
    Gives P ρ (.entry x) ty w (.tuple #[str p.1,p.2]) w:=by
  obtain⟨F,⟨⟨es,c,seen,e⟩,F1,F2,hF,hd,⟨G1,G2,hG,G8,h1,h2⟩,⟨⟨h3,_⟩,h6,h7,h8⟩,h5⟩,_,_⟩:=H.focus hat;intro _ _ _ _;have:=run_entry_at (P:=P) w r b c seen es c e h2.2 h1.2 h6 h3.born;rw[h7,h8]at this;simp only[execOp,hx];simp only[zbj,this,zan,zbl]
end
variable {W:Wd}
section
variable {H:Type} {enc:Td×Value->H} {P:Program}
def El (hl:laidOutB P=true) {W':Wd} (hk:Kept noB W W') {sp:Nat->Bool}: ∀{ts:List Td} {vs:LV} {ds:List (DataW H)} {ps:List MemPlace},(∀t∈ts,P.readableRec t=true/\t<P.types.size)->
    DataW.TrodAll enc P W 0 (λ_=>true) true ts vs ds ps->(∀x∈ps,x.block<W.heap.size)->(∀x∈ps,sp x.block=true)->DataW.TrodAll enc P W' 0 sp true ts vs ds ps
  | [],[],[],_,_,h,_,_=>h
  | t::ts,v::vs,d::ds,ps,ht,⟨p,q,h1,h2,e⟩,aX,Eu=>by
    subst e
    exact⟨p,q,WideElems.Trod_stays hl (ht t zao).1 (ht t zao).2 h1 (λx hx=>hk.below.same (aX x (zco _ hx))) (λx hx=>Eu x (zco _ hx)),
      El hl hk (λu hu=>ht u (zau _ hu)) h2 (λx hx=>aX x (zcv _ hx)) (λx hx=>Eu x (zcv _ hx)),rfl⟩
  | [],[],_::_,_,_,h,_,_=>h.elim
  | [],_::_,_,_,_,h,_,_=>by cases ‹List (DataW H)› <;>exact h.elim
  | _::_,[],_,_,_,h,_,_=>h.elim
  | _::_,_::_,[],_,_,h,_,_=>h.elim
def aiA {f:Func} {s:ChangeSpec} {apart fresh alG again:Bool} {W':Wd} {args:Array Value} {ds gs:List (DataW H)} {before:List MemPlace} (hl:laidOutB P=true)
    (hW:DataW.Whole enc P f.params.toList s.vars apart W args.toList ds gs before) (amm:s.vars=[]) (hr:f.resultTypes= #[t]) (hb:P.underlying t=some .bool) (eO:(f.params.toList.all λt=>P.readableRec t&&decide (t<P.types.size))=true)
    (hs:s.fn H (ds++gs)={results:=[.lit (.bool true)],args:=ds}) (hk:Kept noB W W') (fB:Value.okWide P W' .any 0 t (.bool true)):s.post enc P f apart fresh alG again W args (.bool true) W':=by
  have hp: ∀t∈f.params.toList,P.readableRec t=true/\t<P.types.size:=λt ht=>by
    have:=zba.1 eO t ht;simpa using this
  have hW':=hW;obtain⟨pa,pv,hA,hV,rfl,hz,hn⟩:=hW
  have afT:gs=[]/\pv=[]:=by
    rw[amm]at hV;exact trodVars_none hV
  obtain⟨rfl,rfl⟩:=afT;have aX: ∀p∈pa,p.block<W.heap.size:=λp hp=>hW'.lt p (zco _ hp)
  have ak: ∀(b:Nat) (sp:Nat->Bool) (hd:Bool),DataW.TrodAll enc P W' b sp hd f.resultTypes.toList ((Value.bool true).resultList f.resultTypes.size) (s.fn H (ds++[])).results []:=by
    intro b sp hd;rw[hs,hr];exact trodAll_mk1 (shut_bool hb true)
  have Er: ∀sp:Nat->Bool,(∀p∈pa,sp p.block=true)->DataW.TrodAll enc P W' 0 sp true f.params.toList args.toList (s.fn H (ds++[])).args pa:=by
    intro sp Eu;rw[hs];exact El hl hk hp hA aX Eu
  have hvs: ∀sp:Nat->Bool,DataW.TrodVars enc P W' sp s.vars (s.fn H (ds++[])).vars []:=by
    intro sp;rw[amm,hs];exact rfl
  refine⟨ds,[],pa++[],[],pa,[],hW',ak _ _ _,Er _ (λp hp=>by simpa using aX p hp),hvs _,World.keptBut_mono (λp hp=>⟨hp,?_⟩) (hk.below.frame (· ∈pa++[])),λ_=>?_⟩
  . simpa using hp
  refine⟨λj t' r hj hv=>?_,_,_,([]++pa)++[],⟨[]++pa,[],trodAll_append (Er _ (λ_ _=>rfl)) (ak _ _ _),hvs _,rfl,?_,?_⟩,?_⟩
  . exact ok_one hr rfl fB j t' r hj hv
  . intro b off hp
    have Pw:MemPlace.cell b off∈pa:=by simpa using hp
    rw[hk.below.frozen (aX _ Pw)];exact hz b off (by simpa using Pw)
  . intro ha
    have:=hn ha;simpa using this
  intro p hp _;simpa using hp
def Cn {α:Type} {Q:Nat->α->Prop}: ∀n:Nat,(∀i,i<n->∃x,Q i x)->∃l:List α,l.length=n/\∀i x,l[i]? =some x->Q i x
 | 0,_=>⟨[],rfl,λi x h=>by simp at h⟩
 | n+1,h=>by
  obtain⟨l,h1,h2⟩:=Cn n λi hi=>h i oM;obtain⟨x,hx⟩:=h n oM;refine⟨l++[x],by simp[h1],λi y hy=>?_⟩;rw[List.getElem?_append]at hy
  split at hy
  .exact h2 i y hy
  rename_i hge
  have hi:i=n:=by
   rcases zdo (i-l.length) 1 with h3 | h3
   .omega
   rw[zdn (by simpa using h3)]at hy;cases hy
  subst hi;rw[h1,zec]at hy;injection hy with hy
  rw[<-hy];exact hx
def Co {α:Type} {f:α->LV} (hf: ∀x,(f x).length=s): ∀(l:List α) (k:Nat) (v:Value),(l.flatMap f)[k]? =some v->∃i j x,l[i]? =some x/\(f x)[j]? =some v/\k=i*s+j
 | [],k,v,h=>by simp at h
 | x::l,k,v,h=>by
  rw[zbh,List.getElem?_append]at h
  split at h
  .exact⟨0,k,x,rfl,h,oM⟩
  rename_i hge;obtain⟨i,j,y,h1,h2,h3⟩:=Co hf l _ v h;rw[hf]at h3 hge;exact⟨i+1,j,y,by simpa using h1,h2,by rw[Nat.add_mul];omega⟩
def Cq {α:Type} {f:α->LV} (hf: ∀x,(f x).length=s): ∀l:List α,(l.flatMap f).length=l.length*s
 | []=>sM
 | x::l=>by rw[zbh,zad,hf,Cq hf l,zaq,Nat.add_mul];omega
def R7 {α:Type} {f:α->LV} {good:α->Prop} {s:Nat} {e:Td} {r:Reach} {base:Nat} {d:DataW H} {ps:List MemPlace} (ht:P.underlying t=some (.slice e)) (hC:P.cellsOf e=s) (hf: ∀x,(f x).length=s)
    (hel: ∀n cs y,cs.length=s->DataW.trod enc P W 0 (λ_=>true) true n e cs=some y->∃x,cs=f x/\good x) (hv:Value.okWide P W r base t v) (h:DataW.Trod enc P W 0 (λ_=>true) true t v d ps):
    ∃A c,∃l:List α,v=.slice A l.length c/\l.length<=c/\c<=maxLen/\gZ W A l.length s (l.flatMap f)/\∀x∈l,good x:=by
  obtain⟨a0,len0,cap0,rfl⟩:=okWide_slice ht hv;obtain⟨fuel,hfu⟩:=h
  rcases open_slice ht hfu with⟨h0,_⟩ | ⟨a,len,cap,m,n,D,Pl,hcs,_,hl,hm,hmm,_,hi⟩
  . have h0:[Value.slice a0 len0 cap0]=[.slice none 0 0]:=h0
    injection h0 with h0 _
    exact⟨none,0,[],h0,zbi _,zai _,gZ.nil _ _ _,λ_ h=>by cases h⟩
  have hcs:[Value.slice a0 len0 cap0]=[.slice (some a) len cap]:=hcs;injection hcs with hcs _
  have CU:m=cap:=by simpa using hmm
  subst CU
  obtain⟨l,h1,h2⟩:=Cn (α:=α) (Q:=λi x=>good x/\∀j u,(f x)[j]? =some u->W.cell? (a.add (i*s+j))=some u) len (λi hi'=>by
    obtain⟨cs',hc,ht'⟩:=hi i oM;rw[hC]at hc;obtain⟨_,VB,hat⟩:=World.cells?_some hc;obtain⟨x,hx,hg⟩:=hel _ _ _ VB ht';refine⟨x,hg,λj u hu=>?_⟩;have hj:j<s:=by rw[<-hf x];exact(zax.1 hu).1
    have Pm:=hat j hj;rw[<-Go.Deep.add_add,Pm,hx];exact hu)
  subst h1;refine⟨some a,m,l,hcs,hl,hm,⟨Cq hf l,λ_=>⟨a,rfl,λk u hk=>?_⟩⟩,λx hx=>?_⟩
  . obtain⟨i,j,x,hi',hj,rfl⟩:=Co hf l k u hk
    exact(h2 i x hi').2 j u hj
  obtain⟨i,hi'⟩:=List.mem_iff_getElem?.1 hx;exact(h2 i x hi').1
def nO {e:Td} {fs:Array Field} {base:Nat} {sp:Nat->Bool} {held:Bool} {cs:LV} {y:DataW H×List MemPlace} (he:P.underlying e=some (.struct fs)) (qF:oneCellFields P fs=true) (h:DataW.trod enc P W base sp held n e cs=some y) (_hC:P.cellsOf e=fs.size) (VB:cs.length=fs.size):
    ∀(j:Nat) (fd:Field),fs[j]? =some fd->∃v y' n',cs[j]? =some v/\DataW.trod enc P W base sp held n' fd.type [v]=some y':=by
  obtain⟨ys,n',hn',hy,hlen,hyl,hf⟩:=DataW.trod_struct he h;intro j fd hj;obtain⟨ho,hk⟩:=hone_of qF j fd hj;have Tv:j<fs.size:=(zct.1 hj).1;have h1:=hf j fd hj;rw[ho,hk]at h1
  have hone':(cs.drop j).take 1=[cs[j]'oM]:=by
    rw[zbn oM];rfl
  rw[hone']at h1;have hys:ys[j]? =some (ys[j]'oM):=zab oM;exact⟨_,_,_,zab oM,h1.trans hys⟩
end
end Go.Proofs.Mw
