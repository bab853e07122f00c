/-
 Short names.
-/
import Derived.WalkKit
import Derived.OrdersIn
import Derived.RangeFuncCalls
set_option linter.all false
namespace Go
abbrev L8:=List UInt8
abbrev LV:=List Value
abbrev OA:=Option Addr
abbrev LNB:=List (Nat×Bool)
abbrev NP:=Nat->Prop
abbrev AO:=Array Oper
abbrev LO:=List Oper
abbrev Wd:=World
abbrev Td:=TypeId
abbrev Od:=Operand
variable {p:Prop}
def tR (h:p:=by repeat (first | exact trivial | refine⟨rfl,?_⟩)):p:=h
def oM {p:Prop} (h:p:=by omega):p:=h
def kR {p:Prop} (h:p:=by kernel_rfl):p:=h
def dO (h:p:=by dsimp only;omega):p:=h
def sM (h:p:=by simp):p:=h
def dC {p:Prop} (h:p:=by decide):p:=h
abbrev zaa:=@List.getElem?_eq_getElem
abbrev zab:=@if_neg
abbrev zac:=@if_pos
abbrev zad:=@List.length_append
abbrev zae:=@List.length_map
abbrev zaf:=@List.length_singleton
abbrev zag:=@List.mem_of_getElem?
abbrev zah:=@List.length_take
abbrev zai:=@Nat.zero_le
abbrev zaj:=@List.take_of_length_le
abbrev zak:=@List.mem_cons_self
abbrev zal:=@List.not_mem_nil
abbrev zam:=@decide_eq_false
abbrev zan:=@List.map_append
abbrev zao:=@List.getD_eq_getElem?_getD
abbrev zap:=@List.mem_cons_of_mem
abbrev zaq:=@List.take_add_one
abbrev zar:=@Result.andThen_ok
abbrev zas:=@absurd
abbrev zat:=@List.length_cons
abbrev zau:=@decide_eq_true
abbrev zav:=@List.mem_map
abbrev zaw:=@List.mem_singleton
abbrev zax:=@List.mem_cons
abbrev zay:=@congrArg
abbrev zaz:=@List.all_eq_true
abbrev zba:=@List.getElem?_eq_some_iff
abbrev zbb:=@Option.map_eq_some_iff
abbrev zbc:=@List.map_cons
abbrev zbd:=@Nat.le_of_ble_eq_true
abbrev zbe:=@of_decide_eq_true
abbrev zbf:=@List.eq_nil_of_length_eq_zero
abbrev zbg:=@decide_eq_decide
abbrev zbh:=@List.mem_append
abbrev zbi:=@List.flatMap_cons
abbrev zbj:=@Sem.run_bind
abbrev zbk:=@Nat.le_refl
abbrev zbl:=@Sem.run_pure
abbrev zbm:=@List.length_drop
abbrev zbn:=@List.drop_eq_getElem_cons
abbrev zbo:=@List.take_length
abbrev zbp:=@List.append_assoc
abbrev zbq:=@Array.getD_eq_getD_getElem?
abbrev zbr:=@Bool.and_eq_true
abbrev zbs:=@List.take_append_drop
abbrev zbt:=@List.append_nil
abbrev zbu:=@List.flatMap_append
abbrev zbv:=@List.drop_of_length_le
abbrev zbw:=@List.getElem?_map
abbrev zbx:=@List.getElem?_append_right
abbrev zby:=@List.nil_append
abbrev zbz:=@Array.getElem?_setIfInBounds
abbrev zca:=@List.mem_filter
abbrev zcb:=@List.cons_append
abbrev zcc:=@List.mem_flatMap
abbrev zcd:=@Classical.not_not
abbrev zce:=@List.getElem?_append_left
abbrev zcf:=@Nat.min_eq_left
abbrev zcg:=@List.mem_append_left
abbrev zch:=@List.map_toArray
abbrev zci:=@List.length_nil
abbrev zcj:=@List.mem_of_mem_take
abbrev zck:=@List.mem_append_right
abbrev zcl:=@Nat.le_trans
abbrev zcm:=@List.find?_cons
abbrev zcn:=@List.map_nil
abbrev zco:=@List.getElem?_drop
abbrev zcp:=@List.contains_iff_mem
abbrev zcq:=@List.getElem?_take
abbrev zcr:=@List.findIdx?_eq_some_iff_getElem
abbrev zcs:=@List.pairwise_cons
abbrev zct:=@Option.toList_some
abbrev zcu:=@List.map_congr_left
abbrev zcv:=@Int.toNat_of_nonneg
abbrev zcw:=@Array.getElem?_modify
abbrev zcx:=@List.getElem?_cons_zero
abbrev zcy:=@List.getElem?_cons_succ
abbrev zcz:=@List.set_cons_zero
abbrev zda:=@List.length_replicate
abbrev zdb:=@List.length_set
abbrev zdc:=@List.findIdx?_eq_none_iff
abbrev zdd:=@List.take_succ_cons
abbrev zde:=@Nat.zero_add
abbrev zdf:=@List.getElem?_of_mem
abbrev zdg:=@Option.getD_some
abbrev zdh:=@List.drop_zero
abbrev zdi:=@Array.getElem?_eq_some_iff
abbrev zdj:=@List.mem_map_of_mem
abbrev zdk:=@Option.map_some
abbrev zdl:=@List.take_zero
abbrev zdm:=@Bool.not_eq_true'
abbrev zdn:=@List.map_map
abbrev zdo:=@Array.getElem?_eq_none
abbrev zdp:=@Nat.lt_or_ge
abbrev zdq:=@List.set_append_right
abbrev zdr:=@Bool.not_eq_true
abbrev zds:=@List.drop_length
abbrev zdt:=@Option.bind_eq_some_iff
abbrev zdu:=@List.length_range
abbrev zdv:=@Int.toNat_natCast
abbrev zdw:=@Nat.sub_self
abbrev zdx:=@Bool.eq_iff_iff
abbrev zdy:=@Nat.not_lt_zero
abbrev zdz:=@Array.getElem?_eq_getElem
abbrev zea:=@Bool.false_and
abbrev zeb:=@Option.bind_some
abbrev zec:=@List.filter_sublist
abbrev zed:=@List.getElem?_eq_none
abbrev zee:=@List.length_filter_le
abbrev zef:=@Nat.lt_succ_iff_lt_or_eq
abbrev zeg:=@List.mem_range
abbrev zeh:=@Nat.eq_zero_or_pos
abbrev zei:=@Nat.succ_mul
abbrev zej:=@List.filter_cons
abbrev zek:=@List.mem_of_find?_eq_some
abbrev zel:=@List.filter_append
abbrev zem:=@Array.size_setIfInBounds
abbrev zen:=@List.take_append_of_le_length
abbrev zeo:=@List.drop_append_of_le_length
abbrev zep:=@List.getElem?_mapIdx
abbrev zeq:=@List.mem_of_mem_drop
abbrev zer:=@Bool.true_and
abbrev zes:=@List.ext_getElem?
abbrev zet:=@List.nodup_append
abbrev zeu:=@List.filter_eq_self
abbrev zev:=@List.drop_succ_cons
abbrev zew:=@List.getElem_of_mem
abbrev zex:=@List.replicate_succ
abbrev zey:=@Int.tmod_eq_emod_of_nonneg
abbrev zez:=@Int.tdiv_eq_ediv_of_nonneg
abbrev zfa:=@List.flatMap_nil
abbrev zfb:=@List.find?_eq_none
abbrev zfc:=@Nat.mul_one
abbrev zfd:=@List.pairwise_iff_getElem
abbrev zfe:=@Nat.mul_le_mul_right
abbrev zff:=@Array.getElem?_setIfInBounds_ne
abbrev zfg:=@List.nodup_cons
abbrev zfh:=@Option.isSome_iff_exists
abbrev zfi:=@Nat.add_zero
abbrev zfj:=@List.exists_cons_of_length_pos
abbrev zfk:=@List.getD_cons_zero
abbrev zfl:=@Array.toList_modify
abbrev zfm:=@Int.eq_ofNat_of_zero_le
abbrev zfn:=@List.length_pos_iff
abbrev zfo:=@Nat.lt_succ_self
abbrev zfp:=@Option.map_eq_none_iff
abbrev zfq:=@List.length_eq_one_iff
abbrev zfr:=@List.set_cons_succ
abbrev zfs:=@List.length_mergeSort
abbrev zft:=@List.pairwise_map
abbrev zfu:=@List.size_toArray
abbrev zfv:=@Array.toList_push
abbrev zfw:=@Array.getElem?_append_left
abbrev zfx:=@Int.fdiv_eq_ediv_of_nonneg
abbrev zfy:=@List.mem_iff_getElem
abbrev zfz:=@List.extract_eq_take_drop
abbrev zga:=@List.drop_drop
abbrev zgb:=@List.getElem?_eq_none_iff
abbrev zgc:=@List.any_eq_true
abbrev zgd:=@List.getElem_mem
abbrev zge:=@List.getD_cons_succ
abbrev zgf:=@Array.toList_filter
abbrev zgg:=@Array.length_toList
abbrev zgh:=@List.map_eq_nil_iff
abbrev zgi:=@Nat.add_sub_cancel
abbrev zgj:=@List.findIdx?_cons
abbrev zgk:=@Nat.sub_add_cancel
abbrev zgl:=@Int.add_zero
abbrev zgm:=@List.all_map
abbrev zgn:=@Nat.add_comm
end Go
namespace Go.Proofs.Mw
def bA {p:Prop} (h:p:=by first | (unfold eX;simp_all;done) | (simp_all;done) | (unfold eX;simp_all;omega)):p:=h
def bO {p:Prop} (h:p:=by rw[d];first | (unfold isC;simp_all;done) | (simp_all;done) | (unfold isC;simp_all;omega)):p:=h
def kJ {p:Prop} (h:p:=by unfold maxLen;simp only[zaf];omega):p:=h
def kK {p:Prop} (h:p:=by first | exact d.obj At0 | exact d.obj At2 | exact d.obj At4 | exact d.obj At1 | exact d.obj At3 | exact d.obj At5 | exact d.obj At6 | exact d.obj At7):p:=h
def kL {p:Prop} (h:p:=by first | exact At3 | exact At4 | exact At5 | exact At6):p:=h
def kM {p:Prop} (h:p:=by simp only[zaf];omega):p:=h
def kN {p:Prop} (h:p:=by simp;omega):p:=h
def kP {p:Prop} (h:p:=by unfold maxLen;simp;omega):p:=h
def kQ {p:Prop} (h:p:=by simp only[zdm,decide_eq_false_iff_not,ltC];exact k):p:=h
def kS {p:Prop} (h:p:=by unfold maxLen;omega):p:=h
def kU {p:Prop} (h:p:=by rw[IntKind.wrap_u64];omega):p:=h
def kV {p:Prop} (h:p:=by rw[ay];exact Eq.symm (zam λh=>c h.1)):p:=h
def kW {p:Prop} (h:p:=by first | exact .inl oM | exact .inr ⟨p,k,oM⟩):p:=h
def kX {p:Prop} (h:p:=by rw[Bq oM];omega):p:=h
def kY {p:Prop} (h:p:=by rw[ay,zac oM,d,f];simp only[decide_eq_true_eq]):p:=h
def kZ {p:Prop} (h:p:=by rw[ay,zab oM,zab oM,zac oM,d,g];simp only[decide_eq_true_eq]):p:=h
def yc {p:Prop} (h:p:=by rw[ay,zab oM,zab oM,zab oM,zac (by simp[*])]):p:=h
def Im {p:Prop} (h:p:=by simp only[zad,zat,zci];omega):p:=h
def Io {p:Prop} (h:p:=by rw[zah];omega):p:=h
def Ip {p:Prop} (h:p:=by rw[IntKind.wrap_i32];omega):p:=h
def Iq {p:Prop} (h:p:=by rw[ay];unfold bM;rw[zdx,beq_iff_eq,zbg,decide_eq_true_eq,IntKind.wrap_i64];omega):p:=h
def Ir {p:Prop} (h:p:=by rw[IntKind.wrap_u64];rfl):p:=h
def Iu {p:Prop} (h:p:=by rw[ay,zab oM,zab oM,zab oM,zab oM,zac oM,i];simp only[decide_eq_true_eq]):p:=h
def Iw {p:Prop} (h:p:=by have:=C.outs;omega):p:=h
def Iy {p:Prop} (h:p:=by simpa using h):p:=h
def Iz {p:Prop} (h:p:=by rw[zbm];omega):p:=h
def IB {p:Prop} (h:p:=by rw[ow,ow,E8];exact zbg.2 ⟨λh=>h.2.symm,λh=>⟨rfl,h.symm⟩⟩):p:=h
def IC {p:Prop} (h:p:=by rw[k,zam a,zam S,zam oM];rfl):p:=h
def IE {p:Prop} (h:p:=by first | exact(Sep.dh Hr At8).2.2 | exact(Sep.dh Hr At9).2.2):p:=h
def IG {p:Prop} (h:p:=by rw[size_mk];omega):p:=h
def II {p:Prop} (h:p:=by rw[IntKind.wrap_i64];omega):p:=h
def IJ {p:Prop} (h:p:=by have:=fP k;omega):p:=h
def IK {p:Prop} (h:p:=by have:=C.wh;omega):p:=h
def IL {p:Prop} (h:p:=by rw[zae,zah];omega):p:=h
def IQ {p:Prop} (h:p:=by rw[lu (H.obj At0)];rfl):p:=h
def IU {p:Prop} (h:p:=by rw[ay,zac oM]):p:=h
def IW {p:Prop} (h:p:=by have:=C.cs;omega):p:=h
def IY {p:Prop} (h:p:=by rw[h];rfl):p:=h
def IZ {p:Prop} (h:p:=by rw[u8w];omega):p:=h
def I4 {p:Prop} (h:p:=by rw[zae];omega):p:=h
def I5 {p:Prop} (h:p:=by simpa using s):p:=h
def I6 {p:Prop} (h:p:=by rw[zad];omega):p:=h
def I7 {p:Prop} (h:p:=by unfold jI DC;simp):p:=h
def I8 {p:Prop} (h:p:=by simp[iM]):p:=h
open Go.RowKit
structure St where
 get:Nat->Value
 ds:List Deferred
instance:CoeFun St (λ_=>Nat->Value):=⟨St.get⟩
def St.aah {σ q:St} (h: ∀x,σ x=q x) (o:σ.ds=q.ds):σ=q:=by
 cases σ;cases q;simp only at o;subst o;congr 1;exact funext h
def upd (σ:St) (d:Nat) (v:Value):St:={get:=λx=>bif Nat.beq x d then v else σ x,ds:=σ.ds}
def upd_same (σ:St) (d:Nat) (v:Value):(upd σ d v).get d=v:=by simp[upd]
def upd_ne (σ:St) (d:Nat) (v:Value) (x:Nat) (h:x≠d):(upd σ d v).get x=σ.get x:=by
 have :Nat.beq x d=false:=by
  cases hb:Nat.beq x d
  .rfl
  exact zas (Nat.eq_of_beq_eq_true hb) h
 simp[upd,this]
def ai5 (σ:St) (d:Nat) (v:Value):(upd σ d v).ds=σ.ds:=rfl
def rY (σ:St):Option Nat->Value->St
 | some d,v=>upd σ d v
 | none,_=>σ
def EP (σ:St) (o:Option Nat) (v:Value):(rY σ o v).ds=σ.ds:=by cases o<;>rfl
def und:St:=⟨λ_=>undef,[]⟩
def evF (σ:St):Od->Value
 | .tmp t=>σ t
 | .const v=>v
 | .global g=>.pointer (some ⟨g,0,none⟩)
 | .func f=>.func (.func f) #[] #[]
def pD {p:Prop} (h:p:=by first | with_reducible exact rfl | kernel_rfl):p:=h
def eV {p:Prop} (h:p:=by simp only[evF,upd_same,upd_ne,ne_eq,Nat.reduceEqDiff,not_false_eq_true];rfl):p:=h

structure Rep (n:Nat) (σ:St) (a:Act):Prop where
 size:a.tmps.size=n
 defers:a.defers=σ.ds
 get: ∀i,a.tmps.getD i undef=σ i

variable {n:Nat} {σ:St} {a:Act}
def Rep.eval (h:Rep n σ a):a.eval=evF σ:=by
 funext x
 cases x with
 | tmp t=>exact h.get t
 | _=>rfl
def Rep.put (h:Rep n σ a) {d:Nat} (o:d<n) (v:Value):Rep n (upd σ d v) (a.put (some d) v):=by
 refine⟨by simpa[Act.put]using h.size,h.defers,λi=>?_⟩
 by_cases hi:i=d
 .subst hi
  have :i<a.tmps.size:=by rw[h.size];exact o
  simp[Act.put,upd_same,zbq,this]
 rw[upd_ne _ _ _ _ hi,<-h.get i];simp[Act.put,zbq,zff (Ne.symm hi)]
def OY (n:Nat):Option Nat->Bool
 | some d=>Nat.blt d n
 | none=>true
def Rep.Oo (h:Rep n σ a) {d:Option Nat} (o:OY n d=true) (v:Value):Rep n (rY σ d v) (a.put d v):=by
 cases d with
 | none=>exact h
 | some d=>exact h.put (zbd o) v
def dG (ops:AO) (σ:St) (j:Nat):Option Bool:=
 match(ops[j]?).bind (·.dst)with
 | some d=>(match σ d with | .bool b=>some b | _=>none)
 | none=>none
def Rep.yielded (h:Rep n σ a) (ops:AO) (u: ∀(j:Nat) (d:Nat),(ops[j]?).bind (λo:Oper=>o.dst)=some d->d<n):Go.yielded ops a.tmps=dG ops σ:=by
 funext j
 unfold Go.yielded dG;cases hj:(ops[j]?).bind (·.dst)with
 | none=>rfl
 | some d=>
  have q:d<a.tmps.size:=by rw[h.size];exact u j d hj
  have v:=h.get d
  have :a.tmps[d]? =some (σ d):=by
   rw[zdz q,<-v];simp[zbq,q]
  simp only[zeb,this]
  split<;>rename_i s<;>first | (injection s with s;rw[s]) | (split<;>first | rfl | (rename_i t;exact zas (by rw[t]) (s _)))
def Rep.Ls (h:Rep n σ a) (ops:AO) {j:Nat} {d:Nat} (t:(ops[j]?).bind (λo:Oper=>o.dst)=some d) {b:Bool} (s:σ d=.bool b):Go.yielded ops a.tmps j=some b:=by
 unfold Go.yielded;have q:=h.get d;rw[s]at q
 have :a.tmps[d]? =some (.bool b):=by
  cases hq:a.tmps[d]? with
  | none=>simp[zbq,hq,undef]at q
  | some v=>simp[zbq,hq]at q;rw[q]
 simp only[t,zeb,this]

abbrev Post:=Exit->St->Wd->Prop
def lift (n:Nat) (Q:Post):Exit->Act->Wd->Prop:=λe a w=>∃σ,Rep n σ a/\Q e σ w

def fen (r:Option Nat):Fence:={fn:=λ_=>True,depth:=none,alive:=false,round:=r}
variable {f:FuncId}
def rC {P:Program} {args:Array Value} {w:Wd} {R:Ending->Wd->Prop} (r:Option Nat) (h:Calls P f args w R):CallsIn (fen r) 0 P f args w R:=callsIn_wide.2 h
def FW (P:Program) (r:Option Nat) (n:Nat) (c:Code) (Q:Post) (σ:St) (w:Wd):Prop:=∀a,Rep n σ a->c.wpIn (fen r) 0 P (lift n Q) a w
def FL (P:Program) (r:Option Nat) (n:Nat) (ops:AO) (Q:Post) (rest:LO) (σ:St) (w:Wd):Prop:=∀a,Rep n σ a->wpListIn (fen r) 0 P ops (lift n Q) rest a w

def jX (P:Program) (r:Option Nat) (n:Nat) (b:Code) (Q:Post):Post:=λe σ w=>match e with
 | .normal=>FW P r n b Q σ w
 | e=>Q e σ w
def lg (id:Nat) (Q:Post):Post:=λe σ w=>match e with
 | .exit id'=>if id'=id then Q .normal σ w else Q (.exit id') σ w
 | e=>Q e σ w

variable {P:Program} {r:Option Nat} {Q:Post} {w:Wd}
variable {c:Code}
def FW.mono {H:Post} (h:FW P r n c Q σ w) (t: ∀e σ w,Q e σ w->H e σ w):FW P r n c H σ w:=
 λa q=>Go.wpIn_mono (h a q) λ_ _ _ ⟨s,u,o⟩=>⟨s,u,t _ _ _ o⟩
variable {b:Code}
def ig (h:FW P r n b Q σ w):jX P r n b Q .normal σ w:=h
def ER (h:Q .ret σ w):jX P r n b Q .ret σ w:=h
def Cn {id:Nat} (h:Q (.exit id) σ w):jX P r n b Q (.exit id) σ w:=h
def xC {id:Nat} (h:Q .normal σ w):lg id Q .normal σ w:=h
def uR {id:Nat} (h:Q .ret σ w):lg id Q .ret σ w:=h
def Co {id:Nat} (h:Q .normal σ w):lg id Q (.exit id) σ w:=by simp only[lg,if_true];exact h
def Rx {id i:Nat} (o:Nat.beq i id=false) (h:Q (.exit i) σ w):lg id Q (.exit i) σ w:=by
 have :i≠id:=λe=>by subst e;simp at o
 simp only[lg,zab this];exact h

variable {x y:Code}
def zG (h:FW P r n x (jX P r n y Q) σ w):FW P r n (.seq x y) Q σ w:=λa t=>
 wpIn_seq (Go.wpIn_mono (h a t) λe _ _ ⟨s,q,o⟩=>by
  cases e<;>first | exact o _ q | exact⟨s,q,o⟩)
def aai (h:Q .normal σ w):FW P r n .skip Q σ w:=λ_ o=>wpIn_skip ⟨σ,o,h⟩
def Lu (h:Q .ret σ w):FW P r n .ret Q σ w:=λ_ o=>wpIn_ret ⟨σ,o,h⟩
def K3 {id:Nat} (h:Q (.exit id) σ w):FW P r n (.exit id) Q σ w:=λ_ o=>wpIn_exit ⟨σ,o,h⟩
def rZ {id:Nat} (h:FW P r n c (lg id Q) σ w):FW P r n (.block id c) Q σ w:=λa u=>
 wpIn_block (Go.wpIn_mono (h a u) λe v w' ⟨s,t,q⟩=>by
  cases e with
  | exit i=>
   by_cases o:i=id
   .subst o;simp only[lg,if_true]at q;simp only[Exit.inBlock,if_true];exact⟨s,t,q⟩
   simp only[lg,zab o]at q;simp only[Exit.inBlock,zab o];exact⟨s,t,q⟩
  | _=>exact⟨s,t,q⟩)
def K4 {c:Od} {t:Bool} (q:evF σ c=.bool t) (s:t=true->FW P r n x Q σ w) (hf:t=false->FW P r n y Q σ w):FW P r n (.cond c x y) Q σ w:=λa o=>
 wpIn_cond_split (by rw[o.eval];exact q) (λh=>s h a o) (λh=>hf h a o)
def fC {c:Od} (o:evF σ c=.bool true) (h:FW P r n x Q σ w):FW P r n (.cond c x y) Q σ w:=K4 o (λ_=>h) (λh=>by cases h)
def DF {c:Od} (o:evF σ c=.bool false) (h:FW P r n y Q σ w):FW P r n (.cond c x y) Q σ w:=K4 o (λh=>by cases h) (λ_=>h)
def Gs {id:Nat} {l:LO} (h:FL P r n l.toArray Q l σ w):FW P r n (.region id l.toArray false) Q σ w:=λa o=>wpIn_region_lit (h a o)

def Ur (σ:St):List (Nat×Value)->St
 | []=>σ
 | (d,v)::l=>upd (Ur σ l) d v
def holds (σ:St):List (Nat×Value)->Prop
 | []=>True
 | (d,v)::l=>σ d=v/\holds σ l
def uS (σ:St) (d:Nat):upd σ d (σ d)=σ:=by
 refine St.aah (λx=>?_) rfl
 by_cases h:x=d
 .subst h;simp[upd_same]
 simp[upd_ne _ _ _ _ h]
def rU: ∀{l:List (Nat×Value)},holds σ l->Ur σ l=σ
 | [],_=>rfl
 | (d,v)::l,⟨h,hl⟩=>by
  show upd (Ur σ l) d v=σ
  rw[rU hl,<-h,uS]

def like (σ τ:St):St:=⟨τ.get,σ.ds⟩
def ai6:und.ds=[]:=rfl
def Gx {q:St} (h:q.ds=σ.ds):like σ q=q:=St.aah (λ_=>rfl) h.symm
def ahc {X:Type} (l:X->List (Nat×Value)) (I:X->Wd->Prop) (m:X->Wd->Nat) (H:X) (J:holds σ (l H)) (f:I H w)
    (round: ∀x z w,I x w->FW P r n c (λe t w'=>match e with | .normal=>t.ds=σ.ds/\∃L,holds t (l L)/\I L w'/\m L w'<m x w | e=>Q e t w') (Ur (like σ z) (l x)) w):FW P r n (.loop c) Q σ w:=by
  intro a i b d cs Y N W
  have key: ∀k a w,(∃x t,Rep n t a/\t.ds=σ.ds/\holds t (l x)/\I x w/\m x w=k)->
      ∃e M w',lift n Q e M w'/\ArrivesIn (Machine.fenced P (fen r)) P (lone (b.atR a (.code c:: .inLoop c::d)) cs w) b d cs e M w':=by
    intro k
    induction k using Nat.strongRecOn with
    | _ k y=>
      rintro a w ⟨x,t,Z,O,j,hi,R⟩;have u:=round x t w hi;rw[Gx O,rU j]at u;obtain⟨e,o,q,⟨s,D,A⟩,h⟩:=u a Z b (.inLoop c::d) cs Y N W;cases e with
      | normal=>
        obtain⟨G,L,S,V,p⟩:=A;obtain⟨F,E,K,C,v⟩:=y _ oM o q ⟨L,s,D,G,S,V,rfl⟩;exact⟨F,E,K,C,.of_steps (StepsIn.trans h (.one (fenced_calm N W rfl) stepR_inLoop)) v⟩
      | exit id=>exact⟨_,o,q,⟨s,D,A⟩,.pass (x:=.inLoop c) rfl (λ_ _=>.inl sM) h⟩
      | goto g=>exact⟨_,o,q,⟨s,D,A⟩,.pass (x:=.inLoop c) rfl (λ_ _=>.inl sM) h⟩
      | ret=>exact⟨_,o,q,⟨s,D,A⟩,.pass (x:=.inLoop c) rfl (λ_ _=>.inl sM) h⟩
      | panic chain=>exact⟨_,o,q,⟨s,D,A⟩,.pass (x:=.inLoop c) rfl (λ_ _=>.inl sM) h⟩
      | outgrown=>exact⟨_,o,q,⟨s,D,A⟩,.pass (x:=.inLoop c) rfl (λ_ _=>.inl sM) h⟩
  obtain⟨e,M,w',A,h⟩:=key _ a w ⟨H,σ,i,rfl,J,f,rfl⟩;exact⟨e,M,w',A,.of_steps (.one (fenced_calm N W rfl) stepR_loop) h⟩
def gD {X:Type} (ds:List Deferred) (l:X->List (Nat×Value)) (I:X->Wd->Prop) (m:X->Wd->Nat) (x:X) (w:Wd) (Q:Post):Post:=
 λe σ' w'=>match e with | .normal=>σ'.ds=ds/\∃x',holds σ' (l x')/\I x' w'/\m x' w'<m x w | e=>Q e σ' w'
def aM {X:Type} (l:X->List (Nat×Value)) (I:X->Wd->Prop) (m:X->Wd->Nat) (o:X) (h:holds σ (l o)) (q:I o w)
    (round: ∀x s w,I x w->FW P r n c (gD σ.ds l I m x w Q) (Ur (like σ s) (l x)) w):FW P r n (.loop c) Q σ w:=ahc l I m o h q round
section
variable {X:Type} {ds:List Deferred} {l:X->List (Nat×Value)} {I:X->Wd->Prop} {m:X->Wd->Nat} {x:X} {w0:Wd}
def ak (o:X) (h:holds σ (l o)) (q:I o w) (t:m o w<m x w0) (s:σ.ds=ds:=by exact rfl):gD ds l I m x w0 Q .normal σ w:=⟨s,o,h,q,t⟩
def XP (h:Q .ret σ w):gD ds l I m x w0 Q .ret σ w:=h
def xD {id:Nat} (h:Q (.exit id) σ w):gD ds l I m x w0 Q (.exit id) σ w:=h
end
def l7 {X:Type} (ds:List Deferred) (l:X->List (Nat×Value)) (I:X->Wd->Prop) (Q:Post):Post:=
 λe σ' w'=>match e with | .normal=>σ'.ds=ds/\∃x',holds σ' (l x')/\I x' w' | e=>Q e σ' w'
variable {ds:List Deferred}
def aA {X:Type} {l:X->List (Nat×Value)} {I:X->Wd->Prop} (x:X) (h:holds σ (l x)) (o:I x w) (q:σ.ds=ds:=by exact rfl):l7 ds l I Q .normal σ w:=⟨q,x,h,o⟩
def aea {X:Type} {l:X->List (Nat×Value)} {I:X->Wd->Prop} (h:Q .ret σ w):l7 ds l I Q .ret σ w:=h
def abm {X:Type} {l:X->List (Nat×Value)} {I:X->Wd->Prop} {id:Nat} (h:Q (.exit id) σ w):l7 ds l I Q (.exit id) σ w:=h
def dU {X:Type} (l:X->List (Nat×Value)) (I:X->Wd->Prop) (h:FW P r n x (l7 σ.ds l I Q) σ w)
    (q: ∀z H w,I z w->FW P r n y Q (Ur (like σ H) (l z)) w):FW P r n (.seq x y) Q σ w:=by
  refine zG (h.mono λe s w o=>?_);cases e with
  | normal=>obtain⟨u,z,v,t⟩:=o;have:=q z s w t;rw[Gx u,rU v]at this;exact this
  | _=>exact o
def nG (σ:St):List ResultVar->Option (LV)
 | []=>some []
 | .tmp t::l=>(nG σ l).map (σ t:: ·)
 | _::_=>none
def fU:LV->Value
 | [v]=>v
 | vs=>.tuple vs.toArray
def Ry {P:Program} {w:Wd} {σ:St} (g:ResultVar->Sem Value) (o: ∀t,g (.tmp t)=pure (σ t)): ∀(l:List ResultVar) (v:LV),nG σ l=some v->
    (List.mapM g l).run P w=.ok v w:=by
  intro l
  induction l with
  | nil=>intro v h;simp[nG]at h;subst h;rfl
  | cons r l i=>
    intro v h;cases r with
    | cell a t=>simp[nG]at h
    | tmp t=>
      simp only[nG,zbb]at h;obtain⟨u,q,rfl⟩:=h;rw[List.mapM_cons,o];simp[i u q]
variable {l:List ResultVar} {fn:Func}
def qj {s:Array Value} (o: ∀i,s.getD i undef=σ i) (q:fn.results=l.toArray) {H:LV} (h:nG σ l=some H):
    (results fn s).run P w=.ok (fU H) w:=by
  unfold results;rw[q,List.mapM_toArray]
  have:=Ry (P:=P) (w:=w) (σ:=σ) (λ
    | .tmp t=>pure (s.getD t undef)
    | .cell a t=>do loadVar t (<-asAddr (s.getD a undef))) (λt=>by simp[o]) l H h
  rw[zbj,Sem.run_map];refine(zay (λr=>(Result.andThen r _).andThen _) this).trans ?_;simp only[zar]
  match H with
  | []=>simp[fU]
  | [v]=>simp[fU]
  | u::v::us=>simp[fU]

def Ret (R:Value->Wd->Prop):Ending->Wd->Prop:=λe w=>match e with
 | .returned v=>R v w
 | _=>False
def aX (P:Program) (f:FuncId) (args:LV) (w:Wd) (R:Value->Wd->Prop):Prop:=Calls P f args.toArray w (Ret R)
def aX.mono {args:LV} {w:Wd} {R s:Value->Wd->Prop} (h:aX P f args w R) (q: ∀v w',R v w'->s v w'):aX P f args w s:=
 Calls.mono h λe w' o=>by cases e<;>first | exact q _ _ o | exact o

def Goes:List Deferred->Wd->(Wd->Prop)->Prop
 | [],w,R=>R w
 | d::ds,w,R=>∃D,d.target=.collected D/\w.heap[D]? =some (.deferred (some []))/\Goes ds {w with heap:=w.heap.setIfInBounds D (.deferred none)} R
def Qfn (l:List ResultVar) (R:Value->Wd->Prop):Post:=λe σ w=>match e with
 | .normal | .ret=>∃vs,nG σ l=some vs/\Goes σ.ds w (R (fU vs))
 | _=>False
variable {R:Value->Wd->Prop}
def ahd {v:LV} (h:nG σ l=some v:=by simp only[nG,zdk,upd_same,upd_ne,ne_eq,Nat.reduceEqDiff,not_false_eq_true];rfl) (hR:R (fU v) w) (o:σ.ds=[]:=by exact rfl):Qfn l R .ret σ w:=⟨v,h,by rw[o];exact hR⟩
def XQ {v:LV} (h:nG σ l=some v:=by simp only[nG,zdk,upd_same,upd_ne,ne_eq,Nat.reduceEqDiff,not_false_eq_true];rfl) (hR:R (fU v) w) (o:σ.ds=[]:=by exact rfl):Qfn l R .normal σ w:=⟨v,h,by rw[o];exact hR⟩
variable {v:Value}
def uT {t:Array Value} {R:Ending->Wd->Prop} (o: ∀w,(results fn t).run P w=.ok v w): ∀(ds:List Deferred) (w:Wd),Goes ds w (λw'=>R (.returned v) w')->LeavesInM (fen none) 0 P fn t R ds .returning w
 | [],w,h=>⟨v,o w,h⟩
 | d::ds,w,⟨D,ht,hh,hg⟩=>⟨(λe=>by cases e),.inl ⟨D,_,ht,run_takeDeferred hh,uT o ds _ hg⟩⟩

def DI:Nat->LV->St
 | _,[]=>und
 | k,v::l=>upd (DI (k+1) l) k v
def Us: ∀(l:LV) (k:Nat),(DI k l).ds=[]
 | [],_=>rfl
 | _::l,k=>Us l (k+1)
def OZ: ∀(l:LV) (k i:Nat),DI k l i=if k<=i then l.toArray.getD (i-k) undef else undef
 | [],k,i=>by simp[DI,und]
 | v::l,k,i=>by
  have q:=OZ l (k+1) i;show upd (DI (k+1) l) k v i=_
  by_cases h:i=k
  .subst h;simp[upd_same]
  rw[upd_ne _ _ _ _ h,q]
  by_cases o:k<=i
  .rw[zac o,zac oM]
   have :i-k=(i-(k+1))+1:=by omega
   rw[this];simp[zbq]
  rw[zab o,zab oM]
def akL {args:LV} (q:fn.ntmps=n) (o:args.length<=n):Rep n (DI 0 args) {tmps:=args.toArray++Array.replicate (fn.ntmps-args.toArray.size) undef,defers:=[]}:=by
 refine⟨?_,(Us args 0).symm,λi=>?_⟩
 .simp[q];omega
 rw[OZ];simp only[zai,if_true,Nat.sub_zero];simp only[zbq,List.getElem?_toArray];rw[Array.getElem?_append]
 split
 .simp
 rename_i h;simp at h;rw[zed oM];rw[Array.getElem?_replicate]
 split<;>rfl
def ES {args:LV}
    (hf:P.funcs[f]? =some fn) (H:fn.body=some c) (C:fn.ntmps=n) (o:Nat.ble args.length n=true)
    (v: ∀(e:Exit) (σ:St) (a:Act) (w':Wd),Rep n σ a->Q e σ w'->(e=.normal\/e=.ret)/\LeavesInM (fen none) 0 P fn a.tmps (Ret R) σ.ds .returning w')
    (h:FW P none n c Q (DI 0 args) w):aX P f args w R:=by
  refine(callsIn_wide (n:=0)).1 (callsIn_of_wp_marks (F:=fen none) hf H trivial (Go.wpIn_mono (h _ (akL C (zbd o))) ?_));rintro e u w' ⟨s,t,D⟩;obtain⟨A,q⟩:=v e s u w' t D;rw[<-t.defers]at q
  rcases A with rfl | rfl<;>exact q
def pW {args:LV}
    (hf:P.funcs[f]? =some fn) (A:fn.body=some c) (C:fn.ntmps=n) (v:fn.results=l.toArray) (o:Nat.ble args.length n=true)
    (h:FW P none n c (Qfn l R) (DI 0 args) w):aX P f args w R:=
  ES hf A C o (λe s a w' H u=>by
    cases e with
    | normal=>exact⟨.inl rfl,by obtain⟨D,q,t⟩:=u;exact uT (λw=>qj H.get v q) _ _ t⟩
    | ret=>exact⟨.inr rfl,by obtain⟨D,q,t⟩:=u;exact uT (λw=>qj H.get v q) _ _ t⟩
    | _=>exact u.elim) h
variable {a0 a1 a2 a3:Value}
structure FnB (fn:Func) (c:Code) (n:Nat) (l:List ResultVar) (k:Nat):Prop where
 x:fn.body=some c
 y:fn.ntmps=n
 z:fn.results=l.toArray
 u:Nat.ble k n=true
section
variable {P:Program} {f:FuncId} {fn:Func} {c:Code} {w:Wd} {R:Value->Wd->Prop} {n:Nat} {l:List ResultVar} (hf:P.funcs[f]? =some fn)
include hf
def Ut (h:FW P none n c (Qfn l R) und w) (q:FnB fn c n l 0:=by exact⟨rfl,rfl,rfl,rfl⟩):aX P f [] w R:=pW hf q.x q.y q.z q.u h
def dL (h:FW P none n c (Qfn l R) (upd und 0 a0) w) (q:FnB fn c n l 1:=by exact⟨rfl,rfl,rfl,rfl⟩):aX P f [a0] w R:=pW hf q.x q.y q.z q.u h
def dn (h:FW P none n c (Qfn l R) (upd (upd und 1 a1) 0 a0) w) (q:FnB fn c n l 2:=by exact⟨rfl,rfl,rfl,rfl⟩):aX P f [a0,a1] w R:=pW hf q.x q.y q.z q.u h
def uU (h:FW P none n c (Qfn l R) (upd (upd (upd und 2 a2) 1 a1) 0 a0) w) (q:FnB fn c n l 3:=by exact⟨rfl,rfl,rfl,rfl⟩):aX P f [a0,a1,a2] w R:=pW hf q.x q.y q.z q.u h
def yM (h:FW P none n c (Qfn l R) (upd (upd (upd (upd und 3 a3) 2 a2) 1 a1) 0 a0) w) (q:FnB fn c n l 4:=by exact⟨rfl,rfl,rfl,rfl⟩):aX P f [a0,a1,a2,a3] w R:=pW hf q.x q.y q.z q.u h
def O8 {a:Value} (h:FW P none n c (Qfn l R) (upd (upd (upd (upd (upd und 4 a) 3 a3) 2 a2) 1 a1) 0 a0) w) (q:FnB fn c n l 5:=by exact⟨rfl,rfl,rfl,rfl⟩):aX P f [a0,a1,a2,a3,a] w R:=pW hf q.x q.y q.z q.u h
def akM {a s:Value} (h:FW P none n c (Qfn l R) (upd (upd (upd (upd (upd (upd und 5 s) 4 a) 3 a3) 2 a2) 1 a1) 0 a0) w) (q:FnB fn c n l 6:=by exact⟨rfl,rfl,rfl,rfl⟩):aX P f [a0,a1,a2,a3,a,s] w R:=pW hf q.x q.y q.z q.u h
end
structure aS (S:NP) (w w':Wd):Prop where
 os:w'.os=w.os
 tape:w'.tape=w.tape
 output:w'.output=w.output
 size:w.heap.size<=w'.heap.size
 block: ∀k,k<w.heap.size->¬S k->w'.heap[k]? =w.heap[k]?
def noB:NP:=λ_=>False

variable {S T:NP} {a b c w':Wd}
def aS.refl (S:NP) (w:Wd):aS S w w:=⟨rfl,rfl,rfl,zbk _,λ_ _ _=>rfl⟩
def aS.trans (h:aS S a b) (k:aS T b c) (s: ∀i,T i->S i\/a.heap.size<=i):aS S a c:=
 ⟨k.os.trans h.os,k.tape.trans h.tape,k.output.trans h.output,zcl h.size k.size,λi hi q=>by
  rw[k.block i (Nat.lt_of_lt_of_le hi h.size) (λt=>by rcases s i t with o | o;exact q o;omega),h.block i hi q]⟩
def aS.mono (h:aS S w w') (o: ∀i,S i->T i):aS T w w':=⟨h.os,h.tape,h.output,h.size,λi hi q=>h.block i hi λs=>q (o i s)⟩
def aS.Lv (h:aS S a b) (k:aS noB b c):aS S a c:=h.trans k λ_ hf=>hf.elim
def aS.below (h:aS noB w w'):Below w.heap.size w w':=⟨h.os,h.tape,h.output,h.size,λk o=>h.block k o id⟩
def aS.of_below (h:Below w.heap.size w w'):aS noB w w':=⟨h.os,h.tape,h.output,h.size,λk o _=>h.block k o⟩
def aS.akN (h:aS S a w) (n:Nat):aS S a {w with drawn:=n}:=⟨h.os,h.tape,h.output,h.size,h.block⟩
def aS.alloc (w:Wd) (o:Obj):aS noB w (w.alloc o):=aS.of_below ((Below.refl _ _).alloc (zbk _) o)
def aS.drew (w:Wd):aS noB w w.drew:=⟨rfl,rfl,rfl,zbk _,λ_ _ _=>rfl⟩
variable {o:Obj}
def aS.get (h:aS S w w') {k:Nat} (s:w.heap[k]? =some o) (u: ¬S k):w'.heap[k]? =some o:=by
 have t:k<w.heap.size:=by
  rcases zdp k w.heap.size with q | q
  .exact q
  rw[zdo q]at s;cases s
 rw[h.block k t u,s]
structure HP where
 ok:(NP)->Wd->Prop
 loc: ∀{F:NP} {w w':Wd},w.heap.size<=w'.heap.size->(∀b,F b->w'.heap[b]? =w.heap[b]?)->ok F w->ok F w'
 low: ∀{F:NP} {w:Wd},ok F w->∀b,F b->b<w.heap.size
def lq {k:Nat} (q:w.heap[k]? =some o):k<w.heap.size:=by
 rcases zdp k w.heap.size with h | h
 .exact h
 rw[zdo h]at q;cases q
def jH (φ:Prop):HP where
 ok F _:=φ/\∀b,¬F b
 loc _ _ h:=h
 low h b hb:=(h.2 b hb).elim
def emp:HP:=jH True
def obj (b:Nat) (o:Obj):HP where
 ok F w:=(∀x,F x↔x=b)/\w.heap[b]? =some o
 loc _ h XL:=⟨XL.1,by rw[h b ((XL.1 b).2 rfl)];exact XL.2⟩
 low h x hx:=by have:=(h.1 x).1 hx;subst this;exact lq h.2
def blk (b:Nat) (cs:LV) (E:Td):HP:=obj b (.cells cs.toArray E (0,0))
def dx (p q:HP):HP where
 ok F w:=∃F1 F2,(∀b,F b↔F1 b\/F2 b)/\(∀b,F1 b->¬F2 b)/\p.ok F1 w/\q.ok F2 w
 loc hs h XL:=by
  obtain⟨F1,F2,hF,hd,h1,h2⟩:=XL;exact⟨F1,F2,hF,hd,p.loc hs (λb hb=>h b ((hF b).2 (.inl hb))) h1,q.loc hs (λb hb=>h b ((hF b).2 (.inr hb))) h2⟩
 low h b hb:=by
  obtain⟨F1,F2,hF,hd,h1,h2⟩:=h
  rcases (hF b).1 hb with h | h
  .exact p.low h1 b h
  exact q.low h2 b h
def exH {α:Type} (p:α->HP):HP where
 ok F w:=∃x,(p x).ok F w
 loc hs h XL:=by obtain⟨x,hx⟩:=XL;exact⟨x,(p x).loc hs h hx⟩
 low h b hb:=by obtain⟨x,hx⟩:=h;exact(p x).low hx b hb
def jA:List HP->HP
 | []=>emp
 | p::l=>dx p (jA l)

def Sep (w0:Wd) (S:NP) (rs:List HP) (w:Wd):Prop:=
 aS S w0 w/\∃F,(jA rs).ok F w/\∀b,F b->S b\/w0.heap.size<=b

def At (rs:List HP) (p:HP) (put:HP->List HP):Prop:=∃l1 l2,rs=l1++p::l2/\∀q,put q=l1++q::l2
variable {a b c d e f g h i j k m p:HP} {l:List HP}
def At0:At (p::l) p (λq=>q::l):=⟨[],l,rfl,λ_=>rfl⟩
def At1:At (a::p::l) p (λq=>a::q::l):=⟨[a],l,rfl,λ_=>rfl⟩
def At2:At (a::b::p::l) p (λq=>a::b::q::l):=⟨[a,b],l,rfl,λ_=>rfl⟩
def At3:At (a::b::c::p::l) p (λq=>a::b::c::q::l):=⟨[a,b,c],l,rfl,λ_=>rfl⟩
def At4:At (a::b::c::d::p::l) p (λq=>a::b::c::d::q::l):=⟨[a,b,c,d],l,rfl,λ_=>rfl⟩
def At5:At (a::b::c::d::e::p::l) p (λq=>a::b::c::d::e::q::l):=⟨[a,b,c,d,e],l,rfl,λ_=>rfl⟩
def At6:At (a::b::c::d::e::f::p::l) p (λq=>a::b::c::d::e::f::q::l):=⟨[a,b,c,d,e,f],l,rfl,λ_=>rfl⟩
def At7:At (a::b::c::d::e::f::g::p::l) p (λq=>a::b::c::d::e::f::g::q::l):=⟨[a,b,c,d,e,f,g],l,rfl,λ_=>rfl⟩
def At8:At (a::b::c::d::e::f::g::h::p::l) p (λq=>a::b::c::d::e::f::g::h::q::l):=⟨[a,b,c,d,e,f,g,h],l,rfl,λ_=>rfl⟩
def At9:At (a::b::c::d::e::f::g::h::i::p::l) p (λq=>a::b::c::d::e::f::g::h::i::q::l):=⟨[a,b,c,d,e,f,g,h,i],l,rfl,λ_=>rfl⟩
def aT {p:Prop} (h:p:=by first | exact At0 | exact At1 | exact At2 | exact At3 | exact At4 | exact At5 | exact At6 | exact At7 | exact At8 | exact At9):p:=h
def XR {F:NP} (h: ∀b,¬F b):emp.ok F w:=⟨trivial,h⟩
def Bd {l1 K:List HP}: ∀{F:NP} {w:Wd},(jA (l1++p::K)).ok F w->
    ∃F1 F2,(∀b,F b↔F1 b\/F2 b)/\(∀b,F1 b->¬F2 b)/\p.ok F1 w/\(jA (l1++K)).ok F2 w:=by
  induction l1 with
  | nil=>intro F w h;exact h
  | cons q l i=>
    rintro F w ⟨G,J,C,v,H,A⟩;obtain⟨F1,F2,s,u,D,E⟩:=i A;refine⟨F1,λb=>G b\/F2 b,λb=>?_,λb o=>?_,D,G,F2,λb=>Iff.rfl,λb o t=>v b o ((s b).2 (.inr t)),H,E⟩
    . rw[C,s];constructor
      . rintro(h | h | h)
        . exact .inr (.inl h)
        . exact .inl h
        exact .inr (.inr h)
      rintro(h | h | h)
      . exact .inr (.inl h)
      . exact .inl h
      exact .inr (.inr h)
    rintro(h | h)
    . exact v b h ((s b).2 (.inl o))
    exact u b o h
def Ed {K l2:List HP}: ∀{F F1 F2:NP} {w:Wd},(∀b,F b↔F1 b\/F2 b)->(∀b,F1 b->¬F2 b)->p.ok F1 w->(jA (K++l2)).ok F2 w->(jA (K++p::l2)).ok F w:=by
 induction K with
 | nil=>intro F F1 F2 w t s A J;exact⟨F1,F2,t,s,A,J⟩
 | cons q l i=>
  rintro F F1 F2 w t s A ⟨C,G,u,H,D,E⟩;refine⟨C,λb=>F1 b\/G b,λb=>?_,λb o=>?_,D,i (F1:=F1) (F2:=G) (λb=>Iff.rfl) (λb o v=>s b o ((u b).2 (.inr v))) A E⟩
  .rw[t,u];constructor
   .rintro(h | h | h)
    .exact .inr (.inl h)
    .exact .inl h
    exact .inr (.inr h)
   rintro(h | h | h)
   .exact .inr (.inl h)
   .exact .inl h
   exact .inr (.inr h)
  rintro(h | h)
  .exact s b h ((u b).2 (.inl o))
  exact H b o h

variable {w0:Wd} {rs:List HP}
def Sep.au (h:Sep w0 S rs w):aS S w0 w:=h.1
def Sep.size (h:Sep w0 S rs w):w0.heap.size<=w.heap.size:=h.1.size
def Sep.aK (h:Sep w0 S rs w) (o:aS noB w w'):Sep w0 S rs w':=by
 obtain⟨s,F,q,t⟩:=h;exact⟨s.Lv o,F,(jA rs).loc o.size (λb u=>o.block b ((jA rs).low q b u) id) q,t⟩
def Sep.bG {p:HP} {put:HP->List HP} (h:Sep w0 S rs w) (D:At rs p put):
    ∃F,p.ok F w/\(∀b,F b->S b\/w0.heap.size<=b)/\
      ∀w' F' q,aS F w w'->q.ok F' w'->(∀b,F' b->F b\/w.heap.size<=b)->Sep w0 S (put q) w':=by
  obtain⟨l1,l,rfl,H⟩:=D;obtain⟨A,F,K,C⟩:=h;obtain⟨F1,F2,o,G,L,J⟩:=Bd K;refine⟨F1,L,λb s=>C b ((o b).2 (.inl s)),λw' F' q E M u=>?_⟩;rw[H];have t:=(jA (l1++l)).low J;refine⟨A.trans E λb s=>C b ((o b).2 (.inl s)),λb=>F' b\/F2 b,?_,?_⟩
  . refine Ed (F1:=F') (F2:=F2) (λb=>Iff.rfl) (λb s v=>?_) M ((jA (l1++l)).loc E.size (λb s=>E.block b (t b s) (λA=>G b A s)) J)
    rcases u b s with h | h
    . exact G b h v
    have:=t b v;omega
  rintro b (s | s)
  . rcases u b s with h | h
    . exact C b ((o b).2 (.inl h))
    exact .inr (zcl A.size h)
  exact C b ((o b).2 (.inr s))
def Sep.new {F':NP} (h:Sep w0 S rs w) (u:aS noB w w') (D:p.ok F' w') (s: ∀b,F' b->w.heap.size<=b):Sep w0 S (p::rs) w':=by
 have H:=h;obtain⟨A,F,v,C⟩:=h;have o:=(jA rs).low v;refine⟨A.Lv u,λb=>F' b\/F b,⟨F',F,λb=>Iff.rfl,λb q t=>?_,D,(jA rs).loc u.size (λb q=>u.block b (o b q) id) v⟩,?_⟩
 .have:=o b t;have:=s b q;omega
 rintro b (q | q)
 .exact .inr (zcl H.size (s b q))
 exact C b q
def Sep.alloc (h:Sep w0 S rs w) (o:Obj):Sep w0 S (obj w.heap.size o::rs) (w.alloc o):=
 h.new (F':=λb=>b=w.heap.size) (aS.alloc w o) ⟨λ_=>Iff.rfl,heap_alloc_new w o⟩ λb q=>by rw[q];exact zbk _
def Sep.obj {b:Nat} {put:HP->List HP} (h:Sep w0 S rs w) (q:At rs (obj b o) put):w.heap[b]? =some o:=by
 obtain⟨F,s,_,_⟩:=h.bG q;exact s.2
def Sep.setObj {b:Nat} {C:Obj} {put:HP->List HP} (h:Sep w0 S rs w) (s:At rs (Mw.obj b o) put) (v:aS (λx=>x=b) w w') (H:w'.heap[b]? =some C):Sep w0 S (put (Mw.obj b C)) w':=by
 obtain⟨F,t,A,q⟩:=h.bG s;exact q w' F (Mw.obj b C) (v.mono λi hi=>(t.1 i).2 hi) ⟨t.1,H⟩ λb u=>.inl u
def Sep.bN (h:Sep w0 S (p::rs) w):Sep w0 S rs w:=by
 obtain⟨q,F,⟨H,o,s,A,C,v⟩,t⟩:=h;exact⟨q,o,v,λb u=>t b ((s b).2 (.inr u))⟩
def Sep.start (rs:List HP) {F:NP} (h:(jA rs).ok F w):Sep w F rs w:=⟨aS.refl _ _,F,h,λ_ o=>.inl o⟩
def Sep.aI (w:Wd):Sep w noB [] w:=⟨aS.refl _ _,λ_=>False,XR (λ_=>id),λ_ h=>h.elim⟩
def Sep.ex0 {C:Type} {p:C->HP} (h:Sep w0 S (exH p::rs) w): ∃x,Sep w0 S (p x::rs) w:=by
 obtain⟨s,F,⟨o,q,t,v,⟨x,H⟩,A⟩,u⟩:=h;exact⟨x,s,F,⟨o,q,t,v,H,A⟩,u⟩
def Sep.bW {p q:HP} (h:Sep w0 S (dx p q::rs) w):Sep w0 S (p::q::rs) w:=by
 obtain⟨C,F,⟨M,v,D,H,⟨A,G,s,u,J,K⟩,L⟩,E⟩:=h;refine⟨C,F,⟨A,λb=>G b\/v b,λb=>?_,λb o=>?_,J,G,v,λ_=>Iff.rfl,λb o t=>H b ((s b).2 (.inr o)) t,K,L⟩,E⟩
 .rw[D,s,or_assoc]
 rintro(h | h)
 .exact u b o h
 exact H b ((s b).2 (.inl o)) h
def Sep.ru {φ:Prop} (h:Sep w0 S (jH φ::rs) w):φ/\Sep w0 S rs w:=by
 have o:=h.bN;obtain⟨u,F,⟨s,t,v,A,q,C⟩,H⟩:=h;exact⟨q.1,o⟩
def Sep.aZ {p q:HP} (h:Sep w0 S (p::q::rs) w):Sep w0 S (dx p q::rs) w:=by
 obtain⟨C,F,⟨v,M,D,H,J,G,A,s,u,K,L⟩,E⟩:=h;refine⟨C,F,⟨λb=>v b\/G b,A,λb=>?_,λb o=>?_,⟨v,G,λ_=>Iff.rfl,λb o t=>H b o ((s b).2 (.inl t)),J,K⟩,L⟩,E⟩
 .rw[D,s,or_assoc]
 rcases o with o | o
 .exact λh=>H b o ((s b).2 (.inr h))
 exact u b o
def Sep.tZ {C:Type} {p:C->HP} (x:C) (h:Sep w0 S (p x::rs) w):Sep w0 S (exH p::rs) w:=by
 obtain⟨s,F,⟨o,q,t,v,H,A⟩,u⟩:=h;exact⟨s,F,⟨o,q,t,v,⟨x,H⟩,A⟩,u⟩
def Sep.jY {φ:Prop} (q:φ) (h:Sep w0 S rs w):Sep w0 S (jH φ::rs) w:=by
 obtain⟨s,F,u,t⟩:=h;exact⟨s,F,⟨λ_=>False,F,λb=>sM,λ_ o=>o.elim,⟨q,λ_ o=>o⟩,u⟩,t⟩
def Sep.imp {p q:HP} {put:HP->List HP} (h:Sep w0 S rs w) (s:At rs p put) (t: ∀F,p.ok F w->q.ok F w):Sep w0 S (put q) w:=by
 obtain⟨F,v,H,o⟩:=h.bG s;exact o w F q (aS.refl _ _) (t F v) λb u=>.inl u
def Sep.front {l1 l:List HP} (h:Sep w0 S (l1++p::l) w):Sep w0 S (p::(l1++l)) w:=by
 obtain⟨t,F,u,v⟩:=h;obtain⟨q,s,o,H,A,C⟩:=Bd u;exact⟨t,F,⟨q,s,o,H,A,C⟩,v⟩
def Sep.aJ {a p:HP} {l:List HP} (h:Sep w0 S (a::p::l) w):Sep w0 S (p::a::l) w:=Sep.front (l1:=[a]) h
def Sep.aR {a b p:HP} {l:List HP} (h:Sep w0 S (a::b::p::l) w):Sep w0 S (p::a::b::l) w:=Sep.front (l1:=[a,b]) h
def Sep.bB {a b c p:HP} {l:List HP} (h:Sep w0 S (a::b::c::p::l) w):Sep w0 S (p::a::b::c::l) w:=Sep.front (l1:=[a,b,c]) h
def Sep.eZ {a b c d p:HP} {l:List HP} (h:Sep w0 S (a::b::c::d::p::l) w):Sep w0 S (p::a::b::c::d::l) w:=Sep.front (l1:=[a,b,c,d]) h
def Sep.iy {l:List HP} (h:Sep w0 S (a::b::c::d::e::p::l) w):Sep w0 S (p::a::b::c::d::e::l) w:=Sep.front (l1:=[a,b,c,d,e]) h
def Sep.jq {l:List HP} (h:Sep w0 S (a::b::c::d::e::f::p::l) w):Sep w0 S (p::a::b::c::d::e::f::l) w:=Sep.front (l1:=[a,b,c,d,e,f]) h
def XT {q t:HP} {F:NP}:(dx (dx p q) t).ok F w↔(dx p (dx q t)).ok F w:=by
 constructor
 .rintro⟨C,D,E,H,⟨G,A,s,v,J,K⟩,L⟩
  refine⟨G,λb=>A b\/D b,λb=>?_,λb o=>?_,J,A,D,λ_=>Iff.rfl,λb o u=>H b ((s b).2 (.inr o)) u,K,L⟩
  .rw[E,s,or_assoc]
  rintro(h | h)
  .exact v b o h
  exact H b ((s b).2 (.inl o)) h
 rintro⟨C,D,E,H,J,G,A,s,v,K,L⟩;refine⟨λb=>C b\/G b,A,λb=>?_,λb o=>?_,⟨C,G,λ_=>Iff.rfl,λb o u=>H b o ((s b).2 (.inl u)),J,K⟩,L⟩
 .rw[E,s,or_assoc]
 rcases o with o | o
 .exact λh=>H b o ((s b).2 (.inr h))
 exact v b o
def zH: ∀{F:NP} {w:Wd},(dx (jA l) (jA rs)).ok F w↔(jA (l++rs)).ok F w:=by
 induction l with
 | nil=>
  intro F w;constructor
  .rintro⟨s,o,q,t,⟨_,H⟩,A⟩
   have :F=o:=funext λb=>propext ((q b).trans ⟨λh=>h.elim (λh=>(H b h).elim) id,.inr⟩);rw[this];exact A
  intro h;exact⟨λ_=>False,F,λb=>sM,λ_ h=>h.elim,⟨trivial,λ_ h=>h⟩,h⟩
 | cons p l i=>
  intro F w;show(dx (dx p (jA l)) (jA rs)).ok F w↔(dx p (jA (l++rs))).ok F w
  rw[XT];constructor
  .rintro⟨s,o,q,t,u,v⟩;exact⟨s,o,q,t,u,i.1 v⟩
  rintro⟨s,o,q,t,u,v⟩;exact⟨s,o,q,t,u,i.2 v⟩
def Sep.parts (h:Sep w0 S (jA l::rs) w):Sep w0 S (l++rs) w:=by
 obtain⟨o,F,q,s⟩:=h;exact⟨o,F,zH.1 q,s⟩
def Sep.bundle {l rs:List HP} (h:Sep w0 S (l++rs) w):Sep w0 S (jA l::rs) w:=by
 obtain⟨o,F,q,s⟩:=h;exact⟨o,F,zH.2 q,s⟩
/-A contract that looks alone. -/
abbrev Rk (P:Program) (f:FuncId) (args:LV) (w:Wd) (x:Value):Prop:=aX P f args w λv w'=>v=x/\aS noB w w'
def ah (P:Program) (ρ:Od->Value) (op:Op) (ty:Td) (w:Wd) (v:Value) (w':Wd):Prop:=
 ∀dst pos after guard,(execOp ρ ⟨dst,op,ty,pos,after,guard⟩).run P w=.ok (.value v) w'
def Oq (P:Program) (ρ:Od->Value) (op:Op) (ty:Td) (w w':Wd):Prop:=
 ∀dst pos after guard,(execOp ρ ⟨dst,op,ty,pos,after,guard⟩).run P w=.ok .skip w'

section rules
variable {P:Program} {r:Option Nat} {n:Nat} {ops:AO} {Q:Post} {rest:LO} {σ:St} {w w':Wd} {op:Op} {ty:Td} {pos:String} {after:Array Edge}
def yj (h:Q .normal σ w):FL P r n ops Q [] σ w:=λ_ o=>wpListIn_nil ⟨σ,o,h⟩
def Gy {ρ:Od->Value} {o:Oper} (h:(execOp ρ o).run P w=.ok (.value v) w'):(o.semAt r ρ).run P w=.ok (.value v) w':=by
 by_cases q: ∃c,o.op=.defer c
 .obtain⟨c,q⟩:=q
  exfalso;unfold execOp at h;rw[q]at h;simp only[zbj]at h;cases hr:(resolve ρ c o.type).run P w<;>rw[hr]at h<;>simp[Result.andThen]at h
 rw[Oper.semAt_eq r ρ o λc s=>q ⟨c,s⟩];exact h
def XU {ρ:Od->Value} {o:Oper} (h:(execOp ρ o).run P w=.ok .skip w'):(o.semAt r ρ).run P w=.ok .skip w':=by
 by_cases q: ∃c,o.op=.defer c
 .obtain⟨c,q⟩:=q
  exfalso;unfold execOp at h;rw[q]at h;simp only[zbj]at h;cases hr:(resolve ρ c o.type).run P w<;>rw[hr]at h<;>simp[Result.andThen]at h
 rw[Oper.semAt_eq r ρ o λc s=>q ⟨c,s⟩];exact h
def eu {d:Nat} {v:Value} (t:ah P (evF σ) op ty w v w') (s:Nat.blt d n=true) (h:FL P r n ops Q rest (upd σ d v) w'):
    FL P r n ops Q (⟨some d,op,ty,pos,after,none⟩::rest) σ w:=λa o=>
  wpListIn_plain rfl λK q=>by
    refine⟨λ_ _=>trivial,?_⟩;rw[o.eval,Gy (t _ _ _ _)];exact q _ _ (h _ (o.put (zbd s) v))
def Ee {v:Option Nat} (t:Oq P (evF σ) op ty w w') (s:v=none) (h:FL P r n ops Q rest σ w'):
    FL P r n ops Q (⟨v,op,ty,pos,after,none⟩::rest) σ w:=λa o=>
  wpListIn_plain rfl λK q=>by
    refine⟨λ_ _=>trivial,?_⟩;rw[o.eval,XU (t _ _ _ _)];subst s;exact q _ _ (h _ o)
def aiJ {d:Option Nat} {j:Nat} {b:Bool} {t:Nat} (v:(ops[j]?).bind (λo:Oper=>o.dst)=some t) (u:σ t=.bool b)
    (h:FL P r n ops Q (⟨d,op,ty,pos,after,none⟩::rest) σ w):
    FL P r n ops Q (⟨d,op,ty,pos,after,some (j,b)⟩::rest) σ w:=λa s=>by
  have q:=h a s
  have H:Region.wanted ⟨d,op,ty,pos,after,some (j,b)⟩ (yielded ops a.tmps)=true:=by
    simp[Region.wanted,s.Ls ops v u]
  unfold wpListIn at q ⊢;rw[zac H];rw[zac (by simp[Region.wanted])]at q;exact q
def ai7 {d:Option Nat} {j:Nat} {b:Bool} {t:Nat} (H:(ops[j]?).bind (λo:Oper=>o.dst)=some t) (u:σ t=.bool (!b)) (v:OY n d=true)
    (h:FL P r n ops Q rest (rY σ d undef) w):
    FL P r n ops Q (⟨d,op,ty,pos,after,some (j,b)⟩::rest) σ w:=λa q=>by
  have s:=h _ (q.Oo v undef)
  have A:Region.wanted ⟨d,op,ty,pos,after,some (j,b)⟩ (yielded ops a.tmps)=false:=by
    simp[Region.wanted,q.Ls ops H u]
  unfold wpListIn;rw[zab (by simp[A])];exact⟨λ_ _=>trivial,s⟩
def eO {t:Nat} {b:Bool} {l:LO} (h:σ t=.bool b) (q:b=true->FL P r n ops Q l (upd σ t (.bool true)) w) (o:b=false->FL P r n ops Q l (upd σ t (.bool false)) w):FL P r n ops Q l σ w:=by
 cases b
 .have:=o rfl;rw[<-h,uS]at this;exact this
 have:=q rfl;rw[<-h,uS]at this;exact this
class qB (P:Program) (f:FuncId):Prop where
 run: ∀args w,(callFunc f args).run P w=.ok (.enter f args) w:=by intro _ _;kernel_rfl
def eT {p:Prop} (h:p:=by first | assumption | exact {}):p:=h
def aO {d:Nat} {f:FuncId} {x:List Od} {D:Array Td} {vals:LV} (u:aX P f vals w R) (C:x.map (evF σ)=vals) (H:Nat.blt d n=true)
    (h: ∀v w',R v w'->FL P r n ops Q rest (upd σ d v) w') (A:qB P f:=by exact eT):
    FL P r n ops Q (⟨some d,.call {callee:=.value (.func f),args:=x.toArray,argTypes:=D},ty,pos,after,none⟩::rest) σ w:=λa q=>
  wpListIn_plain rfl λK t=>by
    refine⟨λ_ _=>trivial,?_⟩;rw[Oper.semAt_eq _ _ _ (λ_ h=>by cases h),execOp_call_go,A.run];have e:(#[]++x.toArray.map a.eval++ #[]:Array Value)=vals.toArray:=by rw[q.eval];simp[C]
    rw[e,Oper.uponIn_enter];refine⟨(λh=>by cases h),rC r (Calls.mono u λe o s=>?_)⟩;cases e with
    | returned v=>exact t _ _ (h v o s _ (q.put (zbd H) v))
    | _=>exact s.elim
def aeb {c:Od} {p:Prop} [Decidable p] (o:evF σ c=.bool (decide p)) (q:p->FW P r n x Q σ w) (hf: ¬p->FW P r n y Q σ w):FW P r n (.cond c x y) Q σ w:=
 K4 o (λh=>q (zbe h)) (λh=>hf (of_decide_eq_false h))
end rules

variable {E:Td}
section gives
variable {P:Program} {ρ:Od->Value} {ty:Td} {w w':Wd} {x y z:Od}
def ah.move (h:ρ x=v):ah P ρ (.move x) ty w v w:=λ_ _ _ _=>by subst h;rfl
def ah.assign (h:ρ x=v):ah P ρ (.assign x) ty w v w:=λ_ _ _ _=>by subst h;rfl
def ah.pick {b:Bool} {u:Value} (h:ρ z=.bool b) (o:ρ x=u) (q:ρ y=v):ah P ρ (.pick z x y) ty w (if b then u else v) w:=λ_ _ _ _=>by
 simp only[execOp,h,o,q];cases b<;>rfl
def ah.akO (h:ρ z=.bool true) (o:ρ x=v):ah P ρ (.pick z x y) ty w v w:=λ_ _ _ _=>by subst o;simp only[execOp,h];rfl
def ah.aiK (h:ρ z=.bool false) (o:ρ y=v):ah P ρ (.pick z x y) ty w v w:=λ_ _ _ _=>by subst o;simp only[execOp,h];rfl
def ah.bin {op:BinOp} {T U:Td} {a b:Value} (q:ρ x=a) (s:ρ y=b) (h: ∀x y,(eqGuard op T x y a b).run P w=.ok () w) (o:(binOp op T a b).run P w=.ok v w):ah P ρ (.binOp op T x y U) ty w v w:=λ_ _ _ _=>by
 simp only[execOp,q,s,zbj,h,o,zar,zbl]
section ints
variable {T U:Td} {k:IntKind} {a b:Int}
def ah.add (h:ρ x=.int k a) (o:ρ y=.int k b):ah P ρ (.binOp .add T x y U) ty w (.int k (k.wrap (a+b))) w:=.bin h o (λ_ _=>rfl) (by rw[binOp_add];rfl)
def ah.sub (h:ρ x=.int k a) (o:ρ y=.int k b):ah P ρ (.binOp .sub T x y U) ty w (.int k (k.wrap (a-b))) w:=.bin h o (λ_ _=>rfl) (by rw[binOp_sub];rfl)
def ah.mul (h:ρ x=.int k a) (o:ρ y=.int k b):ah P ρ (.binOp .mul T x y U) ty w (.int k (k.wrap (a*b))) w:=.bin h o (λ_ _=>rfl) (by rw[binOp_mul];rfl)
def ah.Rz {c:Int} (q:ρ x=.int .i64 a) (s:ρ y=.int .i64 b) (o:a+b=c) (h: -9223372036854775808<=c/\c<=9223372036854775807):ah P ρ (.binOp .add T x y U) ty w (.int .i64 c) w:=by
 have:=ah.add (P:=P) (ty:=ty) (w:=w) (T:=T) (U:=U) q s;rw[o,IntWalk.i64_in _ h]at this;exact this
def ah.ai8 {c:Int} (q:ρ x=.int .i64 a) (s:ρ y=.int .i64 b) (o:a-b=c) (h: -9223372036854775808<=c/\c<=9223372036854775807):ah P ρ (.binOp .sub T x y U) ty w (.int .i64 c) w:=by
 have:=ah.sub (P:=P) (ty:=ty) (w:=w) (T:=T) (U:=U) q s;rw[o,IntWalk.i64_in _ h]at this;exact this
def ah.ai9 {c:Int} (q:ρ x=.int .i64 a) (s:ρ y=.int .i64 b) (o:a*b=c) (h: -9223372036854775808<=c/\c<=9223372036854775807):ah P ρ (.binOp .mul T x y U) ty w (.int .i64 c) w:=by
 have:=ah.mul (P:=P) (ty:=ty) (w:=w) (T:=T) (U:=U) q s;rw[o,IntWalk.i64_in _ h]at this;exact this
def ah.quo (o:ρ x=.int k a) (q:ρ y=.int k b) (h:b≠0):ah P ρ (.binOp .quo T x y U) ty w (.int k (k.wrap (a.tdiv b))) w:=.bin o q (λ_ _=>rfl) (by rw[binOp_quo,Op.intDiv,zab h];rfl)
def ah.rem (o:ρ x=.int k a) (q:ρ y=.int k b) (h:b≠0):ah P ρ (.binOp .rem T x y U) ty w (.int k (a.tmod b)) w:=.bin o q (λ_ _=>rfl) (by rw[binOp_rem,Op.intDiv,zab h];rfl)
def ah.eql (h:ρ x=.int k a) (o:ρ y=.int k b):ah P ρ (.binOp .eql T x y U) ty w (.bool (decide (a=b))) w:=.bin h o (λ_ _=>by rw[eqGuard_at_int];rfl) (by rw[binOp_eql];rfl)
def ah.neq (h:ρ x=.int k a) (o:ρ y=.int k b):ah P ρ (.binOp .neq T x y U) ty w (.bool (decide (a≠b))) w:=.bin h o (λ_ _=>by rw[eqGuard_at_int];rfl) (by rw[binOp_neq,show(a !=b)=decide (a≠b)from by rw[decide_not];rfl];rfl)
def ah.lss (h:ρ x=.int k a) (o:ρ y=.int k b):ah P ρ (.binOp .lss T x y U) ty w (.bool (decide (a<b))) w:=.bin h o (λ_ _=>rfl) (by rw[binOp_lss];rfl)
def ah.leq (h:ρ x=.int k a) (o:ρ y=.int k b):ah P ρ (.binOp .leq T x y U) ty w (.bool (decide (a<=b))) w:=.bin h o (λ_ _=>rfl) (by rw[binOp_leq];rfl)
def ah.gtr (h:ρ x=.int k a) (o:ρ y=.int k b):ah P ρ (.binOp .gtr T x y U) ty w (.bool (decide (b<a))) w:=.bin h o (λ_ _=>rfl) (by rw[binOp_gtr];rfl)
def ah.geq (h:ρ x=.int k a) (o:ρ y=.int k b):ah P ρ (.binOp .geq T x y U) ty w (.bool (decide (b<=a))) w:=.bin h o (λ_ _=>rfl) (by rw[binOp_geq];rfl)
def ah.shl {s:IntKind} (h:ρ x=.int k a) (o:ρ y=.int s b) (q:0<=b):ah P ρ (.binOp .shl T x y U) ty w (.int k (k.wrap (a*2^(min b.toNat k.bits)))) w:=.bin h o (λ_ _=>rfl) (by rw[binOp_shl,Op.shift,zab oM];rfl)
def ah.shr {s:IntKind} (h:ρ x=.int k a) (o:ρ y=.int s b) (q:0<=b):ah P ρ (.binOp .shr T x y U) ty w (.int k (a.fdiv (2^(min b.toNat k.bits)))) w:=.bin h o (λ_ _=>rfl) (by rw[binOp_shr,Op.shift,zab oM];rfl)
def ah.and (h:ρ x=.int k a) (o:ρ y=.int k b):ah P ρ (.binOp .and T x y U) ty w (.int k (bits .and k a b)) w:=.bin h o (λ_ _=>rfl) (by rw[binOp_and];rfl)
def ah.or (h:ρ x=.int k a) (o:ρ y=.int k b):ah P ρ (.binOp .or T x y U) ty w (.int k (bits .or k a b)) w:=.bin h o (λ_ _=>rfl) (by rw[binOp_or];rfl)
def ah.xor (h:ρ x=.int k a) (o:ρ y=.int k b):ah P ρ (.binOp .xor T x y U) ty w (.int k (bits .xor k a b)) w:=.bin h o (λ_ _=>rfl) (by rw[binOp_xor];rfl)
end ints
class XV (P:Program) (t:Td):Prop where
 und:P.underlying t=some .bool:=by kernel_rfl
def ah.amS {T U:Td} [h:XV P T] {a b:Bool} (o:ρ x=.bool a) (q:ρ y=.bool b):ah P ρ (.binOp .eql T x y U) ty w (.bool (a==b)) w:=.bin o q (λ_ _=>by rw[eqGuard_at_bool];rfl) (run_eql_bool _ _ _ _ h.und)
def ah.amT {T U:Td} [h:XV P T] {a b:Bool} (o:ρ x=.bool a) (q:ρ y=.bool b):ah P ρ (.binOp .neq T x y U) ty w (.bool (!(a==b))) w:=.bin o q (λ_ _=>by rw[eqGuard_at_bool];rfl) (run_neq_bool _ _ _ _ h.und)
def ah.amU {T U:Td} {a b:ByteArray} (h:ρ x=.string a) (o:ρ y=.string b):ah P ρ (.binOp .eql T x y U) ty w (.bool (a.toList==b.toList)) w:=.bin h o (λ_ _=>by rw[eqGuard_at_string];rfl) rfl
def ah.amV {T U:Td} {a b:ByteArray} (h:ρ x=.string a) (o:ρ y=.string b):ah P ρ (.binOp .neq T x y U) ty w (.bool (!(a.toList==b.toList))) w:=.bin h o (λ_ _=>by rw[eqGuard_at_string];rfl) rfl
def ah.not {b:Bool} {T:Td} (h:ρ x=.bool b):ah P ρ (.unOp .not T x) ty w (.bool (!b)) w:=λ_ _ _ _=>by simp only[execOp,h];rfl
def ah.notP {p:Prop} [Decidable p] {T:Td} (h:ρ x=.bool (decide p)):ah P ρ (.unOp .not T x) ty w (.bool (decide (¬p))) w:=by
 have:=ah.not (P:=P) (ty:=ty) (w:=w) (T:=T) h;rw[show(!decide p)=decide (¬p)from sM]at this;exact this
def ah.neg {k:IntKind} {a:Int} {T:Td} (h:ρ x=.int k a):ah P ρ (.unOp .neg T x) ty w (.int k (k.wrap (0-a))) w:=λ_ _ _ _=>by simp only[execOp,h];rfl
def ah.nilCheck {a:Addr} (h:ρ x=.pointer (some a)):ah P ρ (.nilCheck x) ty w (.pointer (some a)) w:=λ_ _ _ _=>by simp only[execOp,h];rfl
def ah.akP {s t:Td} {k j:IntKind} {a:Int} (o:(P.underlying s).isSome=true) (q:P.underlying t=some (.int k)) (u:ρ x=.int j a):ah P ρ (.convert s t x) ty w (.int k (k.wrap a)) w:=λ_ _ _ _=>by
 obtain⟨d,h⟩:=zfh.1 o;simp[execOp,u,convert,run_underlying h,run_underlying q,Conv.intToInt]
class aaj (P:Program) (t:Td):Prop where
 und: ∃e,P.underlying t=some (.pointer e)
def Dw (d:Nat) {T e:Td} (h:P.underlying T=some (.pointer e)) (a:OA):(Op.equalIn (d+1) T (.pointer a) (.pointer none)).run P w=.ok a.isNone w:=by
 cases a<;>simp[Op.equalIn,run_underlying h]
def xE {T:Td} [h:aaj P T] (a:OA):(Op.equal T (.pointer a) (.pointer none)).run P w=.ok a.isNone w:=by
 obtain⟨e,o⟩:=h.und;exact Dw 9999 o a
def ah.aja {T U:Td} [aaj P T] {a:OA} (h:ρ x=.pointer a) (o:ρ y=.pointer none):ah P ρ (.binOp .eql T x y U) ty w (.bool a.isNone) w:=
 .bin h o (λ_ _=>by rw[eqGuard_at_pointer];rfl) (by simp[binOp,xE])
def ah.ajb {T U:Td} [aaj P T] {a:OA} (h:ρ x=.pointer a) (o:ρ y=.pointer none):ah P ρ (.binOp .neq T x y U) ty w (.bool (!a.isNone)) w:=
 .bin h o (λ_ _=>by rw[eqGuard_at_pointer];rfl) (by simp[binOp,xE])
class Cq (P:Program) (s f:Nat) (k:outParam Nat):Prop where
 run: ∀a w,(Instr.fieldAt s (.pointer (some a)) f).run P w=.ok (.pointer (some (a.add k))) w:=by intro _ _;kernel_rfl
def ah.yt {s f k b:Nat} [h:Cq P s f k] (o:ρ x=.pointer (some ⟨b,0,none⟩)):ah P ρ (.fieldAddr s x f) ty w (.pointer (some ⟨b,k,none⟩)) w:=λ_ _ _ _=>by
 simp only[execOp,o,zbj,h.run,zar,zbl,Addr.add_lit,zde]
def ah.field {s f k b o:Nat} [h:Cq P s f k] (q:ρ x=.pointer (some ⟨b,o,none⟩)):ah P ρ (.fieldAddr s x f) ty w (.pointer (some ⟨b,o+k,none⟩)) w:=λ_ _ _ _=>by
 simp only[execOp,q,zbj,h.run,zar,zbl,Addr.add_lit]
class OneCell (P:Program) (t:Td):Prop where
 agg: ∀w,(isAgg t).run P w=.ok false w:=by intro _;kernel_rfl
 size: ∀w,(sizeOf t).run P w=.ok 1 w:=by intro _;kernel_rfl
class Agg (P:Program) (t:Td) (k:outParam Nat):Prop where
 agg: ∀w,(isAgg t).run P w=.ok true w:=by intro _;kernel_rfl
 size: ∀w,(sizeOf t).run P w=.ok k w:=by intro _;kernel_rfl
class Zero (P:Program) (t:Td) (z:outParam Value):Prop where
 run: ∀w,(zeroValue t).run P w=.ok z w:=by intro _;kernel_rfl
class dR (P:Program) (t:Td) (e:outParam Td):Prop where
 und:P.underlying t=some (.slice e):=by kernel_rfl
class zI (P:Program) (t:Td) (m:outParam Nat) (e:outParam Td):Prop where
 und:P.underlying t=some (.array m e):=by kernel_rfl
class IsMap (P:Program) (t:Td) (k e:outParam Td):Prop where
 und:P.underlying t=some (.map k e):=by kernel_rfl
class nO (P:Program) (t:Td) (k:outParam IntKind):Prop where
 und:P.underlying t=some (.int k):=by kernel_rfl
class mD (P:Program) (t:Td):Prop where
 und:P.underlying t=some .string:=by kernel_rfl
class Cells (P:Program) (t:Td) (k b:outParam Nat):Prop where
 size:(P.info? t).map (λi=>(i.size,i.bytes))=some (k,b):=by kernel_rfl
def lu {b:Nat} {cs:LV} (h:w.heap[b]? =some (.cells cs.toArray E (0,0))) (i:Nat):w.cell? ⟨b,i,none⟩=cs[i]? :=by
 rw[cell_of_row w b i _ _ _ h];simp
def ah.nP {T b o:Nat} [h:OneCell P T] {cs:LV} (s:ρ x=.pointer (some ⟨b,o,none⟩)) (hb:w.heap[b]? =some (.cells cs.toArray E (0,0))) (q:cs[o]? =some v):ah P ρ (.load T x) ty w v w:=λ_ _ _ _=>by
 simp[execOp,s,Instr.loadAt,Instr.sureAddr,loadVar,h.agg,lu hb,q]
def xG {b o k:Nat} {cs:LV} (q:w.heap[b]? =some (.cells cs.toArray E (0,0))) {u:LV} (t:(cs.drop o).take k=u) (s:u.length=k):
    (loadCells ⟨b,o,none⟩ k).run P w=.ok u.toArray w:=by
  have:=run_loadCells_list (P:=P) w ⟨b,o,none⟩ u (λj v h=>by
    rw[Addr.add_lit,lu q];rw[<-t,zcq]at h
    split at h
    . rw[zco]at h;exact h
    cases h)
  rw[s]at this;exact this
def ah.JZ {T b o k:Nat} [h:Agg P T k] {cs:LV} {us:LV} (u:ρ x=.pointer (some ⟨b,o,none⟩)) (q:w.heap[b]? =some (.cells cs.toArray E (0,0))) (t:(cs.drop o).take k=us) (s:us.length=k):ah P ρ (.load T x) ty w (.agg us.toArray) w:=λ_ _ _ _=>by
 simp[execOp,u,Instr.loadAt,Instr.sureAddr,loadVar,h.agg,h.size,xG q t s]
end gives
end Go.Proofs.Mw
