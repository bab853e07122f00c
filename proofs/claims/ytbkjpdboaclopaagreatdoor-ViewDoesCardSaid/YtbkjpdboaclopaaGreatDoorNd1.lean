/-
 Short names.
-/
import Derived.WalkKit
import Derived.OrdersIn
import Derived.RangeFuncCalls
set_option linter.all false
namespace Go
abbrev L8:=List UInt8
abbrev LV:=List Value
abbrev OA:=Option Addr
abbrev LNB:=List (Nat×Bool)
abbrev NP:=Nat->Prop
abbrev AO:=Array Oper
abbrev LO:=List Oper
abbrev Wd:=World
abbrev Td:=TypeId
abbrev Od:=Operand
variable {p:Prop}
def tR (h:p:=by repeat (first | exact trivial | refine⟨rfl,?_⟩)):p:=h
def oM {p:Prop} (h:p:=by omega):p:=h
def kR {p:Prop} (h:p:=by kernel_rfl):p:=h
def dO (h:p:=by dsimp only;omega):p:=h
def sM (h:p:=by simp):p:=h
def dC {p:Prop} (h:p:=by decide):p:=h
abbrev zaa:=@if_neg
abbrev zab:=@List.getElem?_eq_getElem
abbrev zac:=@if_pos
abbrev zad:=@List.length_append
abbrev zae:=@List.length_map
abbrev zaf:=@List.length_singleton
abbrev zag:=@List.mem_of_getElem?
abbrev zah:=@List.length_take
abbrev zai:=@Nat.zero_le
abbrev zaj:=@List.take_of_length_le
abbrev zak:=@List.map_append
abbrev zal:=@decide_eq_false
abbrev zam:=@List.not_mem_nil
abbrev zan:=@Result.andThen_ok
abbrev zao:=@List.mem_cons_self
abbrev zap:=@decide_eq_true
abbrev zaq:=@List.length_cons
abbrev zar:=@List.mem_map
abbrev zas:=@absurd
abbrev zat:=@List.take_add_one
abbrev zau:=@List.mem_cons_of_mem
abbrev zav:=@List.map_cons
abbrev zaw:=@List.mem_singleton
abbrev zax:=@List.getElem?_eq_some_iff
abbrev zay:=@congrArg
abbrev zaz:=@List.getD_eq_getElem?_getD
abbrev zba:=@List.all_eq_true
abbrev zbb:=@List.mem_cons
abbrev zbc:=@Option.map_eq_some_iff
abbrev zbd:=@of_decide_eq_true
abbrev zbe:=@Nat.le_of_ble_eq_true
abbrev zbf:=@decide_eq_decide
abbrev zbg:=@List.eq_nil_of_length_eq_zero
abbrev zbh:=@List.flatMap_cons
abbrev zbi:=@Nat.le_refl
abbrev zbj:=@Sem.run_bind
abbrev zbk:=@List.mem_append
abbrev zbl:=@Sem.run_pure
abbrev zbm:=@List.append_assoc
abbrev zbn:=@List.drop_eq_getElem_cons
abbrev zbo:=@List.length_drop
abbrev zbp:=@Array.getD_eq_getD_getElem?
abbrev zbq:=@List.take_length
abbrev zbr:=@Bool.and_eq_true
abbrev zbs:=@List.take_append_drop
abbrev zbt:=@List.append_nil
abbrev zbu:=@List.drop_of_length_le
abbrev zbv:=@List.flatMap_append
abbrev zbw:=@List.nil_append
abbrev zbx:=@Array.getElem?_setIfInBounds
abbrev zby:=@List.getElem?_append_right
abbrev zbz:=@List.getElem?_map
abbrev zca:=@List.getElem?_cons_zero
abbrev zcb:=@List.cons_append
abbrev zcc:=@List.mem_flatMap
abbrev zcd:=@List.length_nil
abbrev zce:=@List.map_toArray
abbrev zcf:=@List.mem_filter
abbrev zcg:=@List.mem_of_mem_take
abbrev zch:=@List.find?_cons
abbrev zci:=@List.map_nil
abbrev zcj:=@List.getElem?_drop
abbrev zck:=@Nat.le_trans
abbrev zcl:=@List.getElem?_append_left
abbrev zcm:=@List.getElem?_cons_succ
abbrev zcn:=@List.contains_iff_mem
abbrev zco:=@List.mem_append_left
abbrev zcp:=@Nat.min_eq_left
abbrev zcq:=@Classical.not_not
abbrev zcr:=@List.map_congr_left
abbrev zcs:=@Int.toNat_of_nonneg
abbrev zct:=@Array.getElem?_eq_some_iff
abbrev zcu:=@List.getElem?_take
abbrev zcv:=@List.mem_append_right
abbrev zcw:=@List.findIdx?_eq_some_iff_getElem
abbrev zcx:=@List.length_replicate
abbrev zcy:=@List.length_set
abbrev zcz:=@Option.toList_some
abbrev zda:=@List.findIdx?_eq_none_iff
abbrev zdb:=@List.take_succ_cons
abbrev zdc:=@Nat.zero_add
abbrev zdd:=@List.getElem?_of_mem
abbrev zde:=@List.drop_zero
abbrev zdf:=@List.set_cons_zero
abbrev zdg:=@Option.getD_some
abbrev zdh:=@List.take_zero
abbrev zdi:=@Bool.not_eq_true'
abbrev zdj:=@List.map_map
abbrev zdk:=@Array.getElem?_eq_none
abbrev zdl:=@Int.sub_eq_add_neg
abbrev zdm:=@Array.getElem?_modify
abbrev zdn:=@List.getElem?_eq_none
abbrev zdo:=@Nat.lt_or_ge
abbrev zdp:=@List.mem_map_of_mem
abbrev zdq:=@Bool.not_eq_true
abbrev zdr:=@Option.bind_eq_some_iff
abbrev zds:=@Int.toNat_natCast
abbrev zdt:=@List.pairwise_cons
abbrev zdu:=@Bool.eq_iff_iff
abbrev zdv:=@Option.map_some
abbrev zdw:=@Nat.not_lt_zero
abbrev zdx:=@Bool.false_and
abbrev zdy:=@Option.bind_some
abbrev zdz:=@List.drop_length
abbrev zea:=@List.filter_sublist
abbrev zeb:=@List.length_range
abbrev zec:=@Nat.sub_self
abbrev zed:=@List.set_append_right
abbrev zee:=@Nat.lt_succ_iff_lt_or_eq
abbrev zef:=@Nat.eq_zero_or_pos
abbrev zeg:=@List.mem_of_mem_drop
abbrev zeh:=@List.filter_cons
abbrev zei:=@Nat.succ_mul
abbrev zej:=@Array.size_setIfInBounds
abbrev zek:=@List.take_append_of_le_length
abbrev zel:=@List.drop_append_of_le_length
abbrev zem:=@List.getElem?_mapIdx
abbrev zen:=@Bool.true_and
abbrev zeo:=@List.mem_range
abbrev zep:=@List.nodup_append
abbrev zeq:=@List.filter_eq_self
abbrev zer:=@List.drop_succ_cons
abbrev zes:=@List.replicate_succ
abbrev zet:=@Int.tmod_eq_emod_of_nonneg
abbrev zeu:=@Int.tdiv_eq_ediv_of_nonneg
abbrev zev:=@List.mem_of_find?_eq_some
abbrev zew:=@Array.getElem?_eq_getElem
abbrev zex:=@Nat.mul_le_mul_right
abbrev zey:=@List.ext_getElem?
abbrev zez:=@Array.getElem?_setIfInBounds_ne
abbrev zfa:=@List.nodup_cons
abbrev zfb:=@Nat.add_zero
abbrev zfc:=@List.exists_cons_of_length_pos
abbrev zfd:=@Nat.mul_one
abbrev zfe:=@List.map_take
abbrev zff:=@List.map_drop
abbrev zfg:=@List.getD_cons_zero
abbrev zfh:=@Array.toList_modify
abbrev zfi:=@Int.eq_ofNat_of_zero_le
abbrev zfj:=@List.length_pos_iff
abbrev zfk:=@List.getElem_of_mem
abbrev zfl:=@Nat.lt_succ_self
abbrev zfm:=@List.flatMap_nil
abbrev zfn:=@Option.map_eq_none_iff
abbrev zfo:=@List.length_eq_one_iff
abbrev zfp:=@List.find?_eq_none
abbrev zfq:=@List.set_cons_succ
abbrev zfr:=@List.filter_append
abbrev zfs:=@List.length_filter_le
abbrev zft:=@List.size_toArray
abbrev zfu:=@Array.toList_push
abbrev zfv:=@Int.fdiv_eq_ediv_of_nonneg
abbrev zfw:=@List.extract_eq_take_drop
abbrev zfx:=@List.drop_drop
abbrev zfy:=@List.getElem?_eq_none_iff
abbrev zfz:=@List.any_eq_true
abbrev zga:=@List.getD_cons_succ
abbrev zgb:=@Array.toList_filter
abbrev zgc:=@List.map_eq_nil_iff
abbrev zgd:=@Nat.add_sub_cancel
abbrev zge:=@Nat.sub_add_cancel
abbrev zgf:=@Int.add_zero
abbrev zgg:=@List.all_map
abbrev zgh:=@Nat.add_comm
end Go
namespace Go.Proofs.Mw
open Go.RowKit
structure St where
 get:Nat->Value
 ds:List Deferred
instance:CoeFun St (λ_=>Nat->Value):=⟨St.get⟩
def St.abP {σ τ:St} (h: ∀x,σ x=τ x) (hd:σ.ds=τ.ds):σ=τ:=by
 cases σ;cases τ;simp only at hd;subst hd;congr 1;exact funext h
def upd (σ:St) (d:Nat) (v:Value):St:={get:=λx=>bif Nat.beq x d then v else σ x,ds:=σ.ds}
def upd_same (σ:St) (d:Nat) (v:Value):(upd σ d v).get d=v:=by simp[upd]
def upd_ne (σ:St) (d:Nat) (v:Value) (x:Nat) (h:x≠d):(upd σ d v).get x=σ.get x:=by
 have :Nat.beq x d=false:=by
  cases hb:Nat.beq x d
  .rfl
  exact zas (Nat.eq_of_beq_eq_true hb) h
 simp[upd,this]
def amo (σ:St) (d:Nat) (v:Value):(upd σ d v).ds=σ.ds:=rfl
def sj (σ:St):Option Nat->Value->St
 | some d,v=>upd σ d v
 | none,_=>σ
def Fz (σ:St) (o:Option Nat) (v:Value):(sj σ o v).ds=σ.ds:=by cases o<;>rfl
def und:St:=⟨λ_=>undef,[]⟩
def evF (σ:St):Od->Value
 | .tmp t=>σ t
 | .const v=>v
 | .global g=>.pointer (some ⟨g,0,none⟩)
 | .func f=>.func (.func f) #[] #[]
def pD {p:Prop} (h:p:=by first | with_reducible exact rfl | kernel_rfl):p:=h
def eV {p:Prop} (h:p:=by simp only[evF,upd_same,upd_ne,ne_eq,Nat.reduceEqDiff,not_false_eq_true];rfl):p:=h

structure Rep (n:Nat) (σ:St) (a:Act):Prop where
 size:a.tmps.size=n
 defers:a.defers=σ.ds
 get: ∀i,a.tmps.getD i undef=σ i

variable {n:Nat} {σ:St} {a:Act}
def Rep.eval (h:Rep n σ a):a.eval=evF σ:=by
 funext x
 cases x with
 | tmp t=>exact h.get t
 | _=>rfl
def Rep.put (h:Rep n σ a) {d:Nat} (hd:d<n) (v:Value):Rep n (upd σ d v) (a.put (some d) v):=by
 refine⟨by simpa[Act.put]using h.size,h.defers,λi=>?_⟩
 by_cases hi:i=d
 .subst hi
  have :i<a.tmps.size:=by rw[h.size];exact hd
  simp[Act.put,upd_same,zbp,this]
 rw[upd_ne _ _ _ _ hi,<-h.get i];simp[Act.put,zbp,zez (Ne.symm hi)]
def Qr (n:Nat):Option Nat->Bool
 | some d=>Nat.blt d n
 | none=>true
def Rep.PD (h:Rep n σ a) {d:Option Nat} (hd:Qr n d=true) (v:Value):Rep n (sj σ d v) (a.put d v):=by
 cases d with
 | none=>exact h
 | some d=>exact h.put (zbe hd) v
def bY (ops:AO) (σ:St) (j:Nat):Option Bool:=
 match(ops[j]?).bind (·.dst)with
 | some d=>(match σ d with | .bool b=>some b | _=>none)
 | none=>none
def Rep.yielded (h:Rep n σ a) (ops:AO) (hd: ∀(j:Nat) (d:Nat),(ops[j]?).bind (λo:Oper=>o.dst)=some d->d<n):Go.yielded ops a.tmps=bY ops σ:=by
 funext j
 unfold Go.yielded bY;cases hj:(ops[j]?).bind (·.dst)with
 | none=>rfl
 | some d=>
  have aX:d<a.tmps.size:=by rw[h.size];exact hd j d hj
  have hg:=h.get d
  have :a.tmps[d]? =some (σ d):=by
   rw[zew aX,<-hg];simp[zbp,aX]
  simp only[zdy,this]
  split<;>rename_i hq<;>first | (injection hq with hq;rw[hq]) | (split<;>first | rfl | (rename_i qD;exact zas (by rw[qD]) (hq _)))
def Rep.MC (h:Rep n σ a) (ops:AO) {j:Nat} {d:Nat} (hj:(ops[j]?).bind (λo:Oper=>o.dst)=some d) {b:Bool} (hb:σ d=.bool b):Go.yielded ops a.tmps j=some b:=by
 unfold Go.yielded;have hg:=h.get d;rw[hb]at hg
 have :a.tmps[d]? =some (.bool b):=by
  cases hq:a.tmps[d]? with
  | none=>simp[zbp,hq,undef]at hg
  | some v=>simp[zbp,hq]at hg;rw[hg]
 simp only[hj,zdy,this]

abbrev Post:=Exit->St->Wd->Prop
def lift (n:Nat) (Q:Post):Exit->Act->Wd->Prop:=λe a w=>∃σ,Rep n σ a/\Q e σ w

def fen (r:Option Nat):Fence:={fn:=λ_=>True,depth:=none,alive:=false,round:=r}
variable {f:FuncId}
def rD {P:Program} {args:Array Value} {w:Wd} {R:Ending->Wd->Prop} (r:Option Nat) (h:Calls P f args w R):CallsIn (fen r) 0 P f args w R:=callsIn_wide.2 h
def FW (P:Program) (r:Option Nat) (n:Nat) (c:Code) (Q:Post) (σ:St) (w:Wd):Prop:=∀a,Rep n σ a->c.wpIn (fen r) 0 P (lift n Q) a w
def FL (P:Program) (r:Option Nat) (n:Nat) (ops:AO) (Q:Post) (rest:LO) (σ:St) (w:Wd):Prop:=∀a,Rep n σ a->wpListIn (fen r) 0 P ops (lift n Q) rest a w

def jJ (P:Program) (r:Option Nat) (n:Nat) (b:Code) (Q:Post):Post:=λe σ w=>match e with
 | .normal=>FW P r n b Q σ w
 | e=>Q e σ w
def jO (id:Nat) (Q:Post):Post:=λe σ w=>match e with
 | .exit id'=>if id'=id then Q .normal σ w else Q (.exit id') σ w
 | e=>Q e σ w

variable {P:Program} {r:Option Nat} {Q:Post} {w:Wd}
variable {c:Code}
def FW.mono {Q':Post} (h:FW P r n c Q σ w) (hq: ∀e σ w,Q e σ w->Q' e σ w):FW P r n c Q' σ w:=
 λa ha=>Go.wpIn_mono (h a ha) λ_ _ _ ⟨s,hs,hQ⟩=>⟨s,hs,hq _ _ _ hQ⟩
variable {b:Code}
def iK (h:FW P r n b Q σ w):jJ P r n b Q .normal σ w:=h
def FB (h:Q .ret σ w):jJ P r n b Q .ret σ w:=h
def Jd {id:Nat} (h:Q (.exit id) σ w):jJ P r n b Q (.exit id) σ w:=h
def xG {id:Nat} (h:Q .normal σ w):jO id Q .normal σ w:=h
def uR {id:Nat} (h:Q .ret σ w):jO id Q .ret σ w:=h
def Je {id:Nat} (h:Q .normal σ w):jO id Q (.exit id) σ w:=by simp only[jO,if_true];exact h
def Tw {id id':Nat} (iJ:Nat.beq id' id=false) (h:Q (.exit id') σ w):jO id Q (.exit id') σ w:=by
 have :id'≠id:=λe=>by subst e;simp at iJ
 simp only[jO,zaa this];exact h

variable {x y:Code}
def Bo (h:FW P r n x (jJ P r n y Q) σ w):FW P r n (.seq x y) Q σ w:=λa ha=>
 wpIn_seq (Go.wpIn_mono (h a ha) λe _ _ ⟨s,hs,hQ⟩=>by
  cases e<;>first | exact hQ _ hs | exact⟨s,hs,hQ⟩)
def abQ (h:Q .normal σ w):FW P r n .skip Q σ w:=λ_ ha=>wpIn_skip ⟨σ,ha,h⟩
def ME (h:Q .ret σ w):FW P r n .ret Q σ w:=λ_ ha=>wpIn_ret ⟨σ,ha,h⟩
def Tx {id:Nat} (h:Q (.exit id) σ w):FW P r n (.exit id) Q σ w:=λ_ ha=>wpIn_exit ⟨σ,ha,h⟩
def uS {id:Nat} (h:FW P r n c (jO id Q) σ w):FW P r n (.block id c) Q σ w:=λa ha=>
 wpIn_block (Go.wpIn_mono (h a ha) λe a' w' ⟨s,hs,hQ⟩=>by
  cases e with
  | exit id'=>
   by_cases hid:id'=id
   .subst hid;simp only[jO,if_true]at hQ;simp only[Exit.inBlock,if_true];exact⟨s,hs,hQ⟩
   simp only[jO,zaa hid]at hQ;simp only[Exit.inBlock,zaa hid];exact⟨s,hs,hQ⟩
  | _=>exact⟨s,hs,hQ⟩)
def L6 {c:Od} {t:Bool} (hc:evF σ c=.bool t) (ht:t=true->FW P r n x Q σ w) (hf:t=false->FW P r n y Q σ w):FW P r n (.cond c x y) Q σ w:=λa ha=>
 wpIn_cond_split (by rw[ha.eval];exact hc) (λh=>ht h a ha) (λh=>hf h a ha)
def dV {c:Od} (hc:evF σ c=.bool true) (h:FW P r n x Q σ w):FW P r n (.cond c x y) Q σ w:=L6 hc (λ_=>h) (λh=>by cases h)
def D7 {c:Od} (hc:evF σ c=.bool false) (h:FW P r n y Q σ w):FW P r n (.cond c x y) Q σ w:=L6 hc (λh=>by cases h) (λ_=>h)
def Jf {id:Nat} {l:LO} (h:FL P r n l.toArray Q l σ w):FW P r n (.region id l.toArray false) Q σ w:=λa ha=>wpIn_region_lit (h a ha)

def VW (σ:St):List (Nat×Value)->St
 | []=>σ
 | (d,v)::l=>upd (VW σ l) d v
def holds (σ:St):List (Nat×Value)->Prop
 | []=>True
 | (d,v)::l=>σ d=v/\holds σ l
def uT (σ:St) (d:Nat):upd σ d (σ d)=σ:=by
 refine St.abP (λx=>?_) rfl
 by_cases h:x=d
 .subst h;simp[upd_same]
 simp[upd_ne _ _ _ _ h]
def rX: ∀{l:List (Nat×Value)},holds σ l->VW σ l=σ
 | [],_=>rfl
 | (d,v)::l,⟨h,hl⟩=>by
  show upd (VW σ l) d v=σ
  rw[rX hl,<-h,uT]

def like (σ τ:St):St:=⟨τ.get,σ.ds⟩
def amq:und.ds=[]:=rfl
def Jg {τ:St} (h:τ.ds=σ.ds):like σ τ=τ:=St.abP (λ_=>rfl) h.symm
def ajJ {X:Type} (l:X->List (Nat×Value)) (I:X->Wd->Prop) (m:X->Wd->Nat) (x₀:X) (h₀:holds σ (l x₀)) (hI:I x₀ w)
    (round: ∀x τ w,I x w->FW P r n c (λe σ' w'=>match e with | .normal=>σ'.ds=σ.ds/\∃x',holds σ' (l x')/\I x' w'/\m x' w'<m x w | e=>Q e σ' w') (VW (like σ τ) (l x)) w):FW P r n (.loop c) Q σ w:=by
  intro a ha b kk cs hro hb hr
  have key: ∀k a w,(∃x σ',Rep n σ' a/\σ'.ds=σ.ds/\holds σ' (l x)/\I x w/\m x w=k)->
      ∃e a' w',lift n Q e a' w'/\ArrivesIn (Machine.fenced P (fen r)) P (lone (b.atR a (.code c:: .inLoop c::kk)) cs w) b kk cs e a' w':=by
    intro k
    induction k using Nat.strongRecOn with
    | _ k ih=>
      rintro a w ⟨x,σ',hrp,Zf,hh,hi,hm⟩;have Kq:=round x σ' w hi;rw[Jg Zf,rX hh]at Kq;obtain⟨e,a₁,w₁,⟨s,hs,hq⟩,YR⟩:=Kq a hrp b (.inLoop c::kk) cs hro hb hr;cases e with
      | normal=>
        obtain⟨arz,x',pG,hi',aX⟩:=hq;obtain⟨e₂,a₂,w₂,hq2,harr2⟩:=ih _ oM a₁ w₁ ⟨x',s,hs,arz,pG,hi',rfl⟩;exact⟨e₂,a₂,w₂,hq2,.of_steps (StepsIn.trans YR (.one (fenced_calm hb hr rfl) stepR_inLoop)) harr2⟩
      | exit id=>exact⟨_,a₁,w₁,⟨s,hs,hq⟩,.pass (x:=.inLoop c) rfl (λ_ _=>.inl sM) YR⟩
      | goto g=>exact⟨_,a₁,w₁,⟨s,hs,hq⟩,.pass (x:=.inLoop c) rfl (λ_ _=>.inl sM) YR⟩
      | ret=>exact⟨_,a₁,w₁,⟨s,hs,hq⟩,.pass (x:=.inLoop c) rfl (λ_ _=>.inl sM) YR⟩
      | panic chain=>exact⟨_,a₁,w₁,⟨s,hs,hq⟩,.pass (x:=.inLoop c) rfl (λ_ _=>.inl sM) YR⟩
      | outgrown=>exact⟨_,a₁,w₁,⟨s,hs,hq⟩,.pass (x:=.inLoop c) rfl (λ_ _=>.inl sM) YR⟩
  obtain⟨e,a',w',hq,YR⟩:=key _ a w ⟨x₀,σ,ha,rfl,h₀,hI,rfl⟩;exact⟨e,a',w',hq,.of_steps (.one (fenced_calm hb hr rfl) stepR_loop) YR⟩
def fC {X:Type} (ds:List Deferred) (l:X->List (Nat×Value)) (I:X->Wd->Prop) (m:X->Wd->Nat) (x:X) (w:Wd) (Q:Post):Post:=
 λe σ' w'=>match e with | .normal=>σ'.ds=ds/\∃x',holds σ' (l x')/\I x' w'/\m x' w'<m x w | e=>Q e σ' w'
def aI {X:Type} (l:X->List (Nat×Value)) (I:X->Wd->Prop) (m:X->Wd->Nat) (x₀:X) (h₀:holds σ (l x₀)) (hI:I x₀ w)
    (round: ∀x τ w,I x w->FW P r n c (fC σ.ds l I m x w Q) (VW (like σ τ) (l x)) w):FW P r n (.loop c) Q σ w:=ajJ l I m x₀ h₀ hI round
section
variable {X:Type} {ds:List Deferred} {l:X->List (Nat×Value)} {I:X->Wd->Prop} {m:X->Wd->Nat} {x:X} {w0:Wd}
def aj (x':X) (h:holds σ (l x')) (hI:I x' w) (hm:m x' w<m x w0) (hd:σ.ds=ds:=by exact rfl):fC ds l I m x w0 Q .normal σ w:=⟨hd,x',h,hI,hm⟩
def Zn (h:Q .ret σ w):fC ds l I m x w0 Q .ret σ w:=h
def Bp {id:Nat} (h:Q (.exit id) σ w):fC ds l I m x w0 Q (.exit id) σ w:=h
end
def lJ {X:Type} (ds:List Deferred) (l:X->List (Nat×Value)) (I:X->Wd->Prop) (Q:Post):Post:=
 λe σ' w'=>match e with | .normal=>σ'.ds=ds/\∃x',holds σ' (l x')/\I x' w' | e=>Q e σ' w'
variable {ds:List Deferred}
def au {X:Type} {l:X->List (Nat×Value)} {I:X->Wd->Prop} (x':X) (h:holds σ (l x')) (hI:I x' w) (hd:σ.ds=ds:=by exact rfl):lJ ds l I Q .normal σ w:=⟨hd,x',h,hI⟩
def af9 {X:Type} {l:X->List (Nat×Value)} {I:X->Wd->Prop} (h:Q .ret σ w):lJ ds l I Q .ret σ w:=h
def adl {X:Type} {l:X->List (Nat×Value)} {I:X->Wd->Prop} {id:Nat} (h:Q (.exit id) σ w):lJ ds l I Q (.exit id) σ w:=h
def dB {X:Type} (l:X->List (Nat×Value)) (I:X->Wd->Prop) (h:FW P r n x (lJ σ.ds l I Q) σ w)
    (h': ∀z τ w,I z w->FW P r n y Q (VW (like σ τ) (l z)) w):FW P r n (.seq x y) Q σ w:=by
  refine Bo (h.mono λe s w hq=>?_);cases e with
  | normal=>obtain⟨hd,z,hh,hI⟩:=hq;have:=h' z s w hI;rw[Jg hd,rX hh]at this;exact this
  | _=>exact hq
def mV (σ:St):List ResultVar->Option (LV)
 | []=>some []
 | .tmp t::l=>(mV σ l).map (σ t:: ·)
 | _::_=>none
def fJ:LV->Value
 | [v]=>v
 | vs=>.tuple vs.toArray
def TA {P:Program} {w:Wd} {σ:St} (g:ResultVar->Sem Value) (hg: ∀t,g (.tmp t)=pure (σ t)): ∀(l:List ResultVar) (vs:LV),mV σ l=some vs->
    (List.mapM g l).run P w=.ok vs w:=by
  intro l
  induction l with
  | nil=>intro vs h;simp[mV]at h;subst h;rfl
  | cons r l ih=>
    intro vs h;cases r with
    | cell a t=>simp[mV]at h
    | tmp t=>
      simp only[mV,zbc]at h;obtain⟨us,hu,rfl⟩:=h;rw[List.mapM_cons,hg];simp[ih us hu]
variable {l:List ResultVar} {fn:Func}
def qj {tmps:Array Value} (hσ: ∀i,tmps.getD i undef=σ i) (hl:fn.results=l.toArray) {vs:LV} (h:mV σ l=some vs):
    (results fn tmps).run P w=.ok (fJ vs) w:=by
  unfold results;rw[hl,List.mapM_toArray]
  have:=TA (P:=P) (w:=w) (σ:=σ) (λ
    | .tmp t=>pure (tmps.getD t undef)
    | .cell a t=>do loadVar t (<-asAddr (tmps.getD a undef))) (λt=>by simp[hσ]) l vs h
  rw[zbj,Sem.run_map];refine(zay (λr=>(Result.andThen r _).andThen _) this).trans ?_;simp only[zan]
  match vs with
  | []=>simp[fJ]
  | [v]=>simp[fJ]
  | u::v::us=>simp[fJ]

def Ret (R:Value->Wd->Prop):Ending->Wd->Prop:=λe w=>match e with
 | .returned v=>R v w
 | _=>False
def aQ (P:Program) (f:FuncId) (args:LV) (w:Wd) (R:Value->Wd->Prop):Prop:=Calls P f args.toArray w (Ret R)
def aQ.mono {args:LV} {w:Wd} {R R':Value->Wd->Prop} (h:aQ P f args w R) (hr: ∀v w',R v w'->R' v w'):aQ P f args w R':=
 Calls.mono h λe w' he=>by cases e<;>first | exact hr _ _ he | exact he

def Goes:List Deferred->Wd->(Wd->Prop)->Prop
 | [],w,R=>R w
 | d::ds,w,R=>∃D,d.target=.collected D/\w.heap[D]? =some (.deferred (some []))/\Goes ds {w with heap:=w.heap.setIfInBounds D (.deferred none)} R
def Qfn (l:List ResultVar) (R:Value->Wd->Prop):Post:=λe σ w=>match e with
 | .normal | .ret=>∃vs,mV σ l=some vs/\Goes σ.ds w (R (fJ vs))
 | _=>False
variable {R:Value->Wd->Prop}
def ajK {vs:LV} (h:mV σ l=some vs:=by simp only[mV,zdv,upd_same,upd_ne,ne_eq,Nat.reduceEqDiff,not_false_eq_true];rfl) (hR:R (fJ vs) w) (hd:σ.ds=[]:=by exact rfl):Qfn l R .ret σ w:=⟨vs,h,by rw[hd];exact hR⟩
def Zo {vs:LV} (h:mV σ l=some vs:=by simp only[mV,zdv,upd_same,upd_ne,ne_eq,Nat.reduceEqDiff,not_false_eq_true];rfl) (hR:R (fJ vs) w) (hd:σ.ds=[]:=by exact rfl):Qfn l R .normal σ w:=⟨vs,h,by rw[hd];exact hR⟩
variable {v:Value}
def uU {tmps:Array Value} {R:Ending->Wd->Prop} (hr: ∀w,(results fn tmps).run P w=.ok v w): ∀(ds:List Deferred) (w:Wd),Goes ds w (λw'=>R (.returned v) w')->LeavesInM (fen none) 0 P fn tmps R ds .returning w
 | [],w,h=>⟨v,hr w,h⟩
 | d::ds,w,⟨D,ht,hh,hg⟩=>⟨(λe=>by cases e),.inl ⟨D,_,ht,run_takeDeferred hh,uU hr ds _ hg⟩⟩

def D8:Nat->LV->St
 | _,[]=>und
 | k,v::l=>upd (D8 (k+1) l) k v
def VX: ∀(l:LV) (k:Nat),(D8 k l).ds=[]
 | [],_=>rfl
 | _::l,k=>VX l (k+1)
def Qs: ∀(l:LV) (k i:Nat),D8 k l i=if k<=i then l.toArray.getD (i-k) undef else undef
 | [],k,i=>by simp[D8,und]
 | v::l,k,i=>by
  have ih:=Qs l (k+1) i;show upd (D8 (k+1) l) k v i=_
  by_cases h:i=k
  .subst h;simp[upd_same]
  rw[upd_ne _ _ _ _ h,ih]
  by_cases hk:k<=i
  .rw[zac hk,zac oM]
   have :i-k=(i-(k+1))+1:=by omega
   rw[this];simp[zbp]
  rw[zaa hk,zaa oM]
def aoz {args:LV} (hn:fn.ntmps=n) (rW:args.length<=n):Rep n (D8 0 args) {tmps:=args.toArray++Array.replicate (fn.ntmps-args.toArray.size) undef,defers:=[]}:=by
 refine⟨?_,(VX args 0).symm,λi=>?_⟩
 .simp[hn];omega
 rw[Qs];simp only[zai,if_true,Nat.sub_zero];simp only[zbp,List.getElem?_toArray];rw[Array.getElem?_append]
 split
 .simp
 rename_i hge;simp at hge;rw[zdn oM];rw[Array.getElem?_replicate]
 split<;>rfl
def FC {args:LV}
    (hf:P.funcs[f]? =some fn) (hb:fn.body=some c) (hn:fn.ntmps=n) (Er:Nat.ble args.length n=true)
    (hQ: ∀(e:Exit) (σ:St) (a:Act) (w':Wd),Rep n σ a->Q e σ w'->(e=.normal\/e=.ret)/\LeavesInM (fen none) 0 P fn a.tmps (Ret R) σ.ds .returning w')
    (h:FW P none n c Q (D8 0 args) w):aQ P f args w R:=by
  refine(callsIn_wide (n:=0)).1 (callsIn_of_wp_marks (F:=fen none) hf hb trivial (Go.wpIn_mono (h _ (aoz hn (zbe Er))) ?_));rintro e a' w' ⟨s,hs,hq⟩;obtain⟨he,hl⟩:=hQ e s a' w' hs hq;rw[<-hs.defers]at hl
  rcases he with rfl | rfl<;>exact hl
def pW {args:LV}
    (hf:P.funcs[f]? =some fn) (hb:fn.body=some c) (hn:fn.ntmps=n) (hl:fn.results=l.toArray) (Er:Nat.ble args.length n=true)
    (h:FW P none n c (Qfn l R) (D8 0 args) w):aQ P f args w R:=
  FC hf hb hn Er (λe s a w' hs hq=>by
    cases e with
    | normal=>exact⟨.inl rfl,by obtain⟨vs,h1,h2⟩:=hq;exact uU (λw=>qj hs.get hl h1) _ _ h2⟩
    | ret=>exact⟨.inr rfl,by obtain⟨vs,h1,h2⟩:=hq;exact uU (λw=>qj hs.get hl h1) _ _ h2⟩
    | _=>exact hq.elim) h
variable {a0 a1 a2 a3:Value}
structure FnB (fn:Func) (c:Code) (n:Nat) (l:List ResultVar) (k:Nat):Prop where
 x:fn.body=some c
 y:fn.ntmps=n
 z:fn.results=l.toArray
 u:Nat.ble k n=true
section
variable {P:Program} {f:FuncId} {fn:Func} {c:Code} {w:Wd} {R:Value->Wd->Prop} {n:Nat} {l:List ResultVar} (hf:P.funcs[f]? =some fn)
include hf
def abR (h:FW P none n c (Qfn l R) und w) (q:FnB fn c n l 0:=by exact⟨rfl,rfl,rfl,rfl⟩):aQ P f [] w R:=pW hf q.x q.y q.z q.u h
def dh (h:FW P none n c (Qfn l R) (upd und 0 a0) w) (q:FnB fn c n l 1:=by exact⟨rfl,rfl,rfl,rfl⟩):aQ P f [a0] w R:=pW hf q.x q.y q.z q.u h
def bU (h:FW P none n c (Qfn l R) (upd (upd und 1 a1) 0 a0) w) (q:FnB fn c n l 2:=by exact⟨rfl,rfl,rfl,rfl⟩):aQ P f [a0,a1] w R:=pW hf q.x q.y q.z q.u h
def D9 (h:FW P none n c (Qfn l R) (upd (upd (upd und 2 a2) 1 a1) 0 a0) w) (q:FnB fn c n l 3:=by exact⟨rfl,rfl,rfl,rfl⟩):aQ P f [a0,a1,a2] w R:=pW hf q.x q.y q.z q.u h
def yM (h:FW P none n c (Qfn l R) (upd (upd (upd (upd und 3 a3) 2 a2) 1 a1) 0 a0) w) (q:FnB fn c n l 4:=by exact⟨rfl,rfl,rfl,rfl⟩):aQ P f [a0,a1,a2,a3] w R:=pW hf q.x q.y q.z q.u h
def Qt {a4:Value} (h:FW P none n c (Qfn l R) (upd (upd (upd (upd (upd und 4 a4) 3 a3) 2 a2) 1 a1) 0 a0) w) (q:FnB fn c n l 5:=by exact⟨rfl,rfl,rfl,rfl⟩):aQ P f [a0,a1,a2,a3,a4] w R:=pW hf q.x q.y q.z q.u h
def aoA {a4 a5:Value} (h:FW P none n c (Qfn l R) (upd (upd (upd (upd (upd (upd und 5 a5) 4 a4) 3 a3) 2 a2) 1 a1) 0 a0) w) (q:FnB fn c n l 6:=by exact⟨rfl,rfl,rfl,rfl⟩):aQ P f [a0,a1,a2,a3,a4,a5] w R:=pW hf q.x q.y q.z q.u h
end
structure Kept (S:NP) (w w':Wd):Prop where
 os:w'.os=w.os
 tape:w'.tape=w.tape
 output:w'.output=w.output
 size:w.heap.size<=w'.heap.size
 block: ∀k,k<w.heap.size->¬S k->w'.heap[k]? =w.heap[k]?
def noB:NP:=λ_=>False

variable {S T:NP} {a b c w':Wd}
def Kept.refl (S:NP) (w:Wd):Kept S w w:=⟨rfl,rfl,rfl,zbi _,λ_ _ _=>rfl⟩
def Kept.trans (h:Kept S a b) (k:Kept T b c) (hT: ∀i,T i->S i\/a.heap.size<=i):Kept S a c:=
 ⟨k.os.trans h.os,k.tape.trans h.tape,k.output.trans h.output,zck h.size k.size,λi hi hS=>by
  rw[k.block i (Nat.lt_of_lt_of_le hi h.size) (λht=>by rcases hT i ht with h1 | h1;exact hS h1;omega),h.block i hi hS]⟩
def Kept.mono (h:Kept S w w') (hS: ∀i,S i->T i):Kept T w w':=⟨h.os,h.tape,h.output,h.size,λi hi hT=>h.block i hi λhs=>hT (hS i hs)⟩
def Kept.MF (h:Kept S a b) (k:Kept noB b c):Kept S a c:=h.trans k λ_ hf=>hf.elim
def Kept.below (h:Kept noB w w'):Below w.heap.size w w':=⟨h.os,h.tape,h.output,h.size,λk hk=>h.block k hk id⟩
def Kept.of_below (h:Below w.heap.size w w'):Kept noB w w':=⟨h.os,h.tape,h.output,h.size,λk hk _=>h.block k hk⟩
def Kept.aoB (h:Kept S a w) (n:Nat):Kept S a {w with drawn:=n}:=⟨h.os,h.tape,h.output,h.size,h.block⟩
def Kept.alloc (w:Wd) (o:Obj):Kept noB w (w.alloc o):=Kept.of_below ((Below.refl _ _).alloc (zbi _) o)
def Kept.drew (w:Wd):Kept noB w w.drew:=⟨rfl,rfl,rfl,zbi _,λ_ _ _=>rfl⟩
variable {o:Obj}
def Kept.get (h:Kept S w w') {k:Nat} (hk:w.heap[k]? =some o) (hS: ¬S k):w'.heap[k]? =some o:=by
 have aX:k<w.heap.size:=by
  rcases zdo k w.heap.size with h1 | h1
  .exact h1
  rw[zdk h1]at hk;cases hk
 rw[h.block k aX hS,hk]
structure HP where
 ok:(NP)->Wd->Prop
 loc: ∀{F:NP} {w w':Wd},w.heap.size<=w'.heap.size->(∀b,F b->w'.heap[b]? =w.heap[b]?)->ok F w->ok F w'
 low: ∀{F:NP} {w:Wd},ok F w->∀b,F b->b<w.heap.size
def mg {k:Nat} (hk:w.heap[k]? =some o):k<w.heap.size:=by
 rcases zdo k w.heap.size with h1 | h1
 .exact h1
 rw[zdk h1]at hk;cases hk
def jk (φ:Prop):HP where
 ok F _:=φ/\∀b,¬F b
 loc _ _ h:=h
 low h b hb:=(h.2 b hb).elim
def emp:HP:=jk True
def obj (b:Nat) (o:Obj):HP where
 ok F w:=(∀x,F x↔x=b)/\w.heap[b]? =some o
 loc _ h fB:=⟨fB.1,by rw[h b ((fB.1 b).2 rfl)];exact fB.2⟩
 low h x hx:=by have:=(h.1 x).1 hx;subst this;exact mg h.2
def blk (b:Nat) (cs:LV) (E:Td):HP:=obj b (.cells cs.toArray E (0,0))
def star (p q:HP):HP where
 ok F w:=∃F1 F2,(∀b,F b↔F1 b\/F2 b)/\(∀b,F1 b->¬F2 b)/\p.ok F1 w/\q.ok F2 w
 loc hs h fB:=by
  obtain⟨F1,F2,hF,hd,h1,h2⟩:=fB;exact⟨F1,F2,hF,hd,p.loc hs (λb hb=>h b ((hF b).2 (.inl hb))) h1,q.loc hs (λb hb=>h b ((hF b).2 (.inr hb))) h2⟩
 low h b hb:=by
  obtain⟨F1,F2,hF,hd,h1,h2⟩:=h
  rcases (hF b).1 hb with h | h
  .exact p.low h1 b h
  exact q.low h2 b h
def exH {α:Type} (p:α->HP):HP where
 ok F w:=∃x,(p x).ok F w
 loc hs h fB:=by obtain⟨x,hx⟩:=fB;exact⟨x,(p x).loc hs h hx⟩
 low h b hb:=by obtain⟨x,hx⟩:=h;exact(p x).low hx b hb
def je:List HP->HP
 | []=>emp
 | p::l=>star p (je l)

def Sep (w0:Wd) (S:NP) (rs:List HP) (w:Wd):Prop:=
 Kept S w0 w/\∃F,(je rs).ok F w/\∀b,F b->S b\/w0.heap.size<=b

def At (rs:List HP) (p:HP) (put:HP->List HP):Prop:=∃l1 l2,rs=l1++p::l2/\∀q,put q=l1++q::l2
variable {a b c d e f g h i j k m p:HP} {l:List HP}
def At0:At (p::l) p (λq=>q::l):=⟨[],l,rfl,λ_=>rfl⟩
def At1:At (a::p::l) p (λq=>a::q::l):=⟨[a],l,rfl,λ_=>rfl⟩
def At2:At (a::b::p::l) p (λq=>a::b::q::l):=⟨[a,b],l,rfl,λ_=>rfl⟩
def At3:At (a::b::c::p::l) p (λq=>a::b::c::q::l):=⟨[a,b,c],l,rfl,λ_=>rfl⟩
def At4:At (a::b::c::d::p::l) p (λq=>a::b::c::d::q::l):=⟨[a,b,c,d],l,rfl,λ_=>rfl⟩
def At5:At (a::b::c::d::e::p::l) p (λq=>a::b::c::d::e::q::l):=⟨[a,b,c,d,e],l,rfl,λ_=>rfl⟩
def At6:At (a::b::c::d::e::f::p::l) p (λq=>a::b::c::d::e::f::q::l):=⟨[a,b,c,d,e,f],l,rfl,λ_=>rfl⟩
def At7:At (a::b::c::d::e::f::g::p::l) p (λq=>a::b::c::d::e::f::g::q::l):=⟨[a,b,c,d,e,f,g],l,rfl,λ_=>rfl⟩
def At8:At (a::b::c::d::e::f::g::h::p::l) p (λq=>a::b::c::d::e::f::g::h::q::l):=⟨[a,b,c,d,e,f,g,h],l,rfl,λ_=>rfl⟩
def At9:At (a::b::c::d::e::f::g::h::i::p::l) p (λq=>a::b::c::d::e::f::g::h::i::q::l):=⟨[a,b,c,d,e,f,g,h,i],l,rfl,λ_=>rfl⟩
def aT {p:Prop} (h:p:=by first | exact At0 | exact At1 | exact At2 | exact At3 | exact At4 | exact At5 | exact At6 | exact At7 | exact At8 | exact At9):p:=h
def Zp {F:NP} (h: ∀b,¬F b):emp.ok F w:=⟨trivial,h⟩
def Bq {l1 l2:List HP}: ∀{F:NP} {w:Wd},(je (l1++p::l2)).ok F w->
    ∃F1 F2,(∀b,F b↔F1 b\/F2 b)/\(∀b,F1 b->¬F2 b)/\p.ok F1 w/\(je (l1++l2)).ok F2 w:=by
  induction l1 with
  | nil=>intro F w h;exact h
  | cons q l ih=>
    rintro F w ⟨G1,G2,hF,hd,h1,h2⟩;obtain⟨F1,F2,hG,G8,hp,hr⟩:=ih h2;refine⟨F1,λb=>G1 b\/F2 b,λb=>?_,λb hb=>?_,hp,G1,F2,λb=>Iff.rfl,λb hb hb2=>hd b hb ((hG b).2 (.inr hb2)),h1,hr⟩
    . rw[hF,hG];constructor
      . rintro(h | h | h)
        . exact .inr (.inl h)
        . exact .inl h
        exact .inr (.inr h)
      rintro(h | h | h)
      . exact .inr (.inl h)
      . exact .inl h
      exact .inr (.inr h)
    rintro(h | h)
    . exact hd b h ((hG b).2 (.inl hb))
    exact G8 b hb h
def Ew {l1 l2:List HP}: ∀{F F1 F2:NP} {w:Wd},(∀b,F b↔F1 b\/F2 b)->(∀b,F1 b->¬F2 b)->p.ok F1 w->(je (l1++l2)).ok F2 w->(je (l1++p::l2)).ok F w:=by
 induction l1 with
 | nil=>intro F F1 F2 w hF hd hp hr;exact⟨F1,F2,hF,hd,hp,hr⟩
 | cons q l ih=>
  rintro F F1 F2 w hF hd hp ⟨G1,G2,hG,G8,h1,h2⟩;refine⟨G1,λb=>F1 b\/G2 b,λb=>?_,λb hb=>?_,h1,ih (F1:=F1) (F2:=G2) (λb=>Iff.rfl) (λb hb hb2=>hd b hb ((hG b).2 (.inr hb2))) hp h2⟩
  .rw[hF,hG];constructor
   .rintro(h | h | h)
    .exact .inr (.inl h)
    .exact .inl h
    exact .inr (.inr h)
   rintro(h | h | h)
   .exact .inr (.inl h)
   .exact .inl h
   exact .inr (.inr h)
  rintro(h | h)
  .exact hd b h ((hG b).2 (.inl hb))
  exact G8 b hb h

variable {w0:Wd} {rs:List HP}
def Sep.kept (h:Sep w0 S rs w):Kept S w0 w:=h.1
def Sep.size (h:Sep w0 S rs w):w0.heap.size<=w.heap.size:=h.1.size
def Sep.keep (h:Sep w0 S rs w) (hk:Kept noB w w'):Sep w0 S rs w':=by
 obtain⟨h1,F,hF,hS⟩:=h;exact⟨h1.MF hk,F,(je rs).loc hk.size (λb hb=>hk.block b ((je rs).low hF b hb) id) hF,hS⟩
def Sep.focus {p:HP} {put:HP->List HP} (h:Sep w0 S rs w) (hat:At rs p put):
    ∃F,p.ok F w/\(∀b,F b->S b\/w0.heap.size<=b)/\
      ∀w' F' q,Kept F w w'->q.ok F' w'->(∀b,F' b->F b\/w.heap.size<=b)->Sep w0 S (put q) w':=by
  obtain⟨l1,l2,rfl,lG⟩:=hat;obtain⟨h1,F,hF,hS⟩:=h;obtain⟨F1,F2,Fb,hd,hp,hr⟩:=Bq hF;refine⟨F1,hp,λb hb=>hS b ((Fb b).2 (.inl hb)),λw' F' q hk hq iC=>?_⟩;rw[lG];have xE:=(je (l1++l2)).low hr;refine⟨h1.trans hk λb hb=>hS b ((Fb b).2 (.inl hb)),λb=>F' b\/F2 b,?_,?_⟩
  . refine Ew (F1:=F') (F2:=F2) (λb=>Iff.rfl) (λb hb hb2=>?_) hq ((je (l1++l2)).loc hk.size (λb hb=>hk.block b (xE b hb) (λh1=>hd b h1 hb)) hr)
    rcases iC b hb with h | h
    . exact hd b h hb2
    have:=xE b hb2;omega
  rintro b (hb | hb)
  . rcases iC b hb with h | h
    . exact hS b ((Fb b).2 (.inl h))
    exact .inr (zck h1.size h)
  exact hS b ((Fb b).2 (.inr hb))
def Sep.new {F':NP} (h:Sep w0 S rs w) (hk:Kept noB w w') (hp:p.ok F' w') (hF': ∀b,F' b->w.heap.size<=b):Sep w0 S (p::rs) w':=by
 have h0:=h;obtain⟨h1,F,hF,hS⟩:=h;have xE:=(je rs).low hF;refine⟨h1.MF hk,λb=>F' b\/F b,⟨F',F,λb=>Iff.rfl,λb hb hb2=>?_,hp,(je rs).loc hk.size (λb hb=>hk.block b (xE b hb) id) hF⟩,?_⟩
 .have:=xE b hb2;have:=hF' b hb;omega
 rintro b (hb | hb)
 .exact .inr (zck h0.size (hF' b hb))
 exact hS b hb
def Sep.alloc (h:Sep w0 S rs w) (o:Obj):Sep w0 S (obj w.heap.size o::rs) (w.alloc o):=
 h.new (F':=λb=>b=w.heap.size) (Kept.alloc w o) ⟨λ_=>Iff.rfl,heap_alloc_new w o⟩ λb hb=>by rw[hb];exact zbi _
def Sep.obj {b:Nat} {put:HP->List HP} (h:Sep w0 S rs w) (hat:At rs (obj b o) put):w.heap[b]? =some o:=by
 obtain⟨F,hp,_,_⟩:=h.focus hat;exact hp.2
def Sep.setObj {b:Nat} {o':Obj} {put:HP->List HP} (h:Sep w0 S rs w) (hat:At rs (Mw.obj b o) put) (hk:Kept (λx=>x=b) w w') (ho:w'.heap[b]? =some o'):Sep w0 S (put (Mw.obj b o')) w':=by
 obtain⟨F,hp,hS,lG⟩:=h.focus hat;exact lG w' F (Mw.obj b o') (hk.mono λi hi=>(hp.1 i).2 hi) ⟨hp.1,ho⟩ λb hb=>.inl hb
def Sep.bI (h:Sep w0 S (p::rs) w):Sep w0 S rs w:=by
 obtain⟨h1,F,⟨F1,F2,hF,hd,hp,hr⟩,hS⟩:=h;exact⟨h1,F2,hr,λb hb=>hS b ((hF b).2 (.inr hb))⟩
def Sep.start (rs:List HP) {F:NP} (h:(je rs).ok F w):Sep w F rs w:=⟨Kept.refl _ _,F,h,λ_ hb=>.inl hb⟩
def Sep.aH (w:Wd):Sep w noB [] w:=⟨Kept.refl _ _,λ_=>False,Zp (λ_=>id),λ_ hb=>hb.elim⟩
def Sep.ex0 {α:Type} {p:α->HP} (h:Sep w0 S (exH p::rs) w): ∃x,Sep w0 S (p x::rs) w:=by
 obtain⟨h1,F,⟨F1,F2,hF,hd,⟨x,hp⟩,hr⟩,hS⟩:=h;exact⟨x,h1,F,⟨F1,F2,hF,hd,hp,hr⟩,hS⟩
def Sep.bE {p q:HP} (h:Sep w0 S (star p q::rs) w):Sep w0 S (p::q::rs) w:=by
 obtain⟨h1,F,⟨F1,F2,hF,hd,⟨G1,G2,hG,G8,hp,hq⟩,hr⟩,hS⟩:=h;refine⟨h1,F,⟨G1,λb=>G2 b\/F2 b,λb=>?_,λb hb=>?_,hp,G2,F2,λ_=>Iff.rfl,λb hb hb2=>hd b ((hG b).2 (.inr hb)) hb2,hq,hr⟩,hS⟩
 .rw[hF,hG,or_assoc]
 rintro(h | h)
 .exact G8 b hb h
 exact hd b ((hG b).2 (.inl hb)) h
def Sep.ru {φ:Prop} (h:Sep w0 S (jk φ::rs) w):φ/\Sep w0 S rs w:=by
 have h':=h.bI;obtain⟨h1,F,⟨F1,F2,hF,hd,hp,hr⟩,hS⟩:=h;exact⟨hp.1,h'⟩
def Sep.aR {p q:HP} (h:Sep w0 S (p::q::rs) w):Sep w0 S (star p q::rs) w:=by
 obtain⟨h1,F,⟨F1,F2,hF,hd,hp,G1,G2,hG,G8,hq,hr⟩,hS⟩:=h;refine⟨h1,F,⟨λb=>F1 b\/G1 b,G2,λb=>?_,λb hb=>?_,⟨F1,G1,λ_=>Iff.rfl,λb hb hb2=>hd b hb ((hG b).2 (.inl hb2)),hp,hq⟩,hr⟩,hS⟩
 .rw[hF,hG,or_assoc]
 rcases hb with hb | hb
 .exact λh=>hd b hb ((hG b).2 (.inr h))
 exact G8 b hb
def Sep.tY {α:Type} {p:α->HP} (x:α) (h:Sep w0 S (p x::rs) w):Sep w0 S (exH p::rs) w:=by
 obtain⟨h1,F,⟨F1,F2,hF,hd,hp,hr⟩,hS⟩:=h;exact⟨h1,F,⟨F1,F2,hF,hd,⟨x,hp⟩,hr⟩,hS⟩
def Sep.jP {φ:Prop} (hφ:φ) (h:Sep w0 S rs w):Sep w0 S (jk φ::rs) w:=by
 obtain⟨h1,F,hr,hS⟩:=h;exact⟨h1,F,⟨λ_=>False,F,λb=>sM,λ_ hb=>hb.elim,⟨hφ,λ_ hb=>hb⟩,hr⟩,hS⟩
def Sep.imp {q:HP} {put:HP->List HP} (h:Sep w0 S rs w) (hat:At rs p put) (hpq: ∀F,p.ok F w->q.ok F w):Sep w0 S (put q) w:=by
 obtain⟨F,hp,hS,lG⟩:=h.focus hat;exact lG w F q (Kept.refl _ _) (hpq F hp) λb hb=>.inl hb
def Sep.front {l1 l2:List HP} (h:Sep w0 S (l1++p::l2) w):Sep w0 S (p::(l1++l2)) w:=by
 obtain⟨h1,F,hF,hS⟩:=h;obtain⟨F1,F2,Fb,hd,hp,hr⟩:=Bq hF;exact⟨h1,F,⟨F1,F2,Fb,hd,hp,hr⟩,hS⟩
def Sep.aF {a p:HP} {l:List HP} (h:Sep w0 S (a::p::l) w):Sep w0 S (p::a::l) w:=Sep.front (l1:=[a]) h
def Sep.aO {a b p:HP} {l:List HP} (h:Sep w0 S (a::b::p::l) w):Sep w0 S (p::a::b::l) w:=Sep.front (l1:=[a,b]) h
def Sep.aS {a b c p:HP} {l:List HP} (h:Sep w0 S (a::b::c::p::l) w):Sep w0 S (p::a::b::c::l) w:=Sep.front (l1:=[a,b,c]) h
def Sep.gu {a b c d p:HP} {l:List HP} (h:Sep w0 S (a::b::c::d::p::l) w):Sep w0 S (p::a::b::c::d::l) w:=Sep.front (l1:=[a,b,c,d]) h
def Sep.jC {l:List HP} (h:Sep w0 S (a::b::c::d::e::p::l) w):Sep w0 S (p::a::b::c::d::e::l) w:=Sep.front (l1:=[a,b,c,d,e]) h
def Sep.lu {l:List HP} (h:Sep w0 S (a::b::c::d::e::f::p::l) w):Sep w0 S (p::a::b::c::d::e::f::l) w:=Sep.front (l1:=[a,b,c,d,e,f]) h
def Zq {q t:HP} {F:NP}:(star (star p q) t).ok F w↔(star p (star q t)).ok F w:=by
 constructor
 .rintro⟨F1,F2,hF,hd,⟨G1,G2,hG,G8,hp,hq⟩,hr⟩
  refine⟨G1,λb=>G2 b\/F2 b,λb=>?_,λb hb=>?_,hp,G2,F2,λ_=>Iff.rfl,λb hb hb2=>hd b ((hG b).2 (.inr hb)) hb2,hq,hr⟩
  .rw[hF,hG,or_assoc]
  rintro(h | h)
  .exact G8 b hb h
  exact hd b ((hG b).2 (.inl hb)) h
 rintro⟨F1,F2,hF,hd,hp,G1,G2,hG,G8,hq,hr⟩;refine⟨λb=>F1 b\/G1 b,G2,λb=>?_,λb hb=>?_,⟨F1,G1,λ_=>Iff.rfl,λb hb hb2=>hd b hb ((hG b).2 (.inl hb2)),hp,hq⟩,hr⟩
 .rw[hF,hG,or_assoc]
 rcases hb with hb | hb
 .exact λh=>hd b hb ((hG b).2 (.inr h))
 exact G8 b hb
def zL: ∀{F:NP} {w:Wd},(star (je l) (je rs)).ok F w↔(je (l++rs)).ok F w:=by
 induction l with
 | nil=>
  intro F w;constructor
  .rintro⟨F1,F2,hF,hd,⟨_,h1⟩,h2⟩
   have :F=F2:=funext λb=>propext ((hF b).trans ⟨λh=>h.elim (λh=>(h1 b h).elim) id,.inr⟩);rw[this];exact h2
  intro h;exact⟨λ_=>False,F,λb=>sM,λ_ h=>h.elim,⟨trivial,λ_ h=>h⟩,h⟩
 | cons p l ih=>
  intro F w;show(star (star p (je l)) (je rs)).ok F w↔(star p (je (l++rs))).ok F w
  rw[Zq];constructor
  .rintro⟨F1,F2,hF,hd,hp,hr⟩;exact⟨F1,F2,hF,hd,hp,ih.1 hr⟩
  rintro⟨F1,F2,hF,hd,hp,hr⟩;exact⟨F1,F2,hF,hd,hp,ih.2 hr⟩
def Sep.parts (h:Sep w0 S (je l::rs) w):Sep w0 S (l++rs) w:=by
 obtain⟨h1,F,hF,hS⟩:=h;exact⟨h1,F,zL.1 hF,hS⟩
def Sep.bundle {l rs:List HP} (h:Sep w0 S (l++rs) w):Sep w0 S (je l::rs) w:=by
 obtain⟨h1,F,hF,hS⟩:=h;exact⟨h1,F,zL.2 hF,hS⟩
/-A contract that looks alone. -/
abbrev Rk (P:Program) (f:FuncId) (args:LV) (w:Wd) (x:Value):Prop:=aQ P f args w λv w'=>v=x/\Kept noB w w'
def Gives (P:Program) (ρ:Od->Value) (op:Op) (ty:Td) (w:Wd) (v:Value) (w':Wd):Prop:=
 ∀dst pos after guard,(execOp ρ ⟨dst,op,ty,pos,after,guard⟩).run P w=.ok (.value v) w'
def PE (P:Program) (ρ:Od->Value) (op:Op) (ty:Td) (w w':Wd):Prop:=
 ∀dst pos after guard,(execOp ρ ⟨dst,op,ty,pos,after,guard⟩).run P w=.ok .skip w'

section rules
variable {P:Program} {r:Option Nat} {n:Nat} {ops:AO} {Q:Post} {rest:LO} {σ:St} {w w':Wd} {op:Op} {ty:Td} {pos:String} {after:Array Edge}
def yj (h:Q .normal σ w):FL P r n ops Q [] σ w:=λ_ ha=>wpListIn_nil ⟨σ,ha,h⟩
def Jh {ρ:Od->Value} {o:Oper} (h:(execOp ρ o).run P w=.ok (.value v) w'):(o.semAt r ρ).run P w=.ok (.value v) w':=by
 by_cases hd: ∃c,o.op=.defer c
 .obtain⟨c,hd⟩:=hd
  exfalso;unfold execOp at h;rw[hd]at h;simp only[zbj]at h;cases hr:(resolve ρ c o.type).run P w<;>rw[hr]at h<;>simp[Result.andThen]at h
 rw[Oper.semAt_eq r ρ o λc hc=>hd ⟨c,hc⟩];exact h
def Zr {ρ:Od->Value} {o:Oper} (h:(execOp ρ o).run P w=.ok .skip w'):(o.semAt r ρ).run P w=.ok .skip w':=by
 by_cases hd: ∃c,o.op=.defer c
 .obtain⟨c,hd⟩:=hd
  exfalso;unfold execOp at h;rw[hd]at h;simp only[zbj]at h;cases hr:(resolve ρ c o.type).run P w<;>rw[hr]at h<;>simp[Result.andThen]at h
 rw[Oper.semAt_eq r ρ o λc hc=>hd ⟨c,hc⟩];exact h
def dD {d:Nat} {v:Value} (hg:Gives P (evF σ) op ty w v w') (hd:Nat.blt d n=true) (h:FL P r n ops Q rest (upd σ d v) w'):
    FL P r n ops Q (⟨some d,op,ty,pos,after,none⟩::rest) σ w:=λa ha=>
  wpListIn_plain rfl λK hK=>by
    refine⟨λ_ _=>trivial,?_⟩;rw[ha.eval,Jh (hg _ _ _ _)];exact hK _ _ (h _ (ha.put (zbe hd) v))
def Ey {v:Option Nat} (hg:PE P (evF σ) op ty w w') (hd:v=none) (h:FL P r n ops Q rest σ w'):
    FL P r n ops Q (⟨v,op,ty,pos,after,none⟩::rest) σ w:=λa ha=>
  wpListIn_plain rfl λK hK=>by
    refine⟨λ_ _=>trivial,?_⟩;rw[ha.eval,Zr (hg _ _ _ _)];subst hd;exact hK _ _ (h _ ha)
def alI {dst:Option Nat} {j:Nat} {b:Bool} {t:Nat} (hj:(ops[j]?).bind (λo:Oper=>o.dst)=some t) (hb:σ t=.bool b)
    (h:FL P r n ops Q (⟨dst,op,ty,pos,after,none⟩::rest) σ w):
    FL P r n ops Q (⟨dst,op,ty,pos,after,some (j,b)⟩::rest) σ w:=λa ha=>by
  have h1:=h a ha
  have hw:Region.wanted ⟨dst,op,ty,pos,after,some (j,b)⟩ (yielded ops a.tmps)=true:=by
    simp[Region.wanted,ha.MC ops hj hb]
  unfold wpListIn at h1 ⊢;rw[zac hw];rw[zac (by simp[Region.wanted])]at h1;exact h1
def amr {dst:Option Nat} {j:Nat} {b:Bool} {t:Nat} (hj:(ops[j]?).bind (λo:Oper=>o.dst)=some t) (hb:σ t=.bool (!b)) (hd:Qr n dst=true)
    (h:FL P r n ops Q rest (sj σ dst undef) w):
    FL P r n ops Q (⟨dst,op,ty,pos,after,some (j,b)⟩::rest) σ w:=λa ha=>by
  have h1:=h _ (ha.PD hd undef)
  have hw:Region.wanted ⟨dst,op,ty,pos,after,some (j,b)⟩ (yielded ops a.tmps)=false:=by
    simp[Region.wanted,ha.MC ops hj hb]
  unfold wpListIn;rw[zaa (by simp[hw])];exact⟨λ_ _=>trivial,h1⟩
def dL {t:Nat} {b:Bool} {l:LO} (hb:σ t=.bool b) (h1:b=true->FL P r n ops Q l (upd σ t (.bool true)) w) (h0:b=false->FL P r n ops Q l (upd σ t (.bool false)) w):FL P r n ops Q l σ w:=by
 cases b
 .have:=h0 rfl;rw[<-hb,uT]at this;exact this
 have:=h1 rfl;rw[<-hb,uT]at this;exact this
class qz (P:Program) (f:FuncId):Prop where
 run: ∀args w,(callFunc f args).run P w=.ok (.enter f args) w:=by intro _ _;kernel_rfl
def eT {p:Prop} (h:p:=by first | assumption | exact {}):p:=h
def aL {d:Nat} {f:FuncId} {xs:List Od} {ats:Array Td} {vals:LV} (hc:aQ P f vals w R) (hv:xs.map (evF σ)=vals) (hd:Nat.blt d n=true)
    (h: ∀v w',R v w'->FL P r n ops Q rest (upd σ d v) w') (he:qz P f:=by exact eT):
    FL P r n ops Q (⟨some d,.call {callee:=.value (.func f),args:=xs.toArray,argTypes:=ats},ty,pos,after,none⟩::rest) σ w:=λa ha=>
  wpListIn_plain rfl λK hK=>by
    refine⟨λ_ _=>trivial,?_⟩;rw[Oper.semAt_eq _ _ _ (λ_ h=>by cases h),execOp_call_go,he.run];have e:(#[]++xs.toArray.map a.eval++ #[]:Array Value)=vals.toArray:=by rw[ha.eval];simp[hv]
    rw[e,Oper.uponIn_enter];refine⟨(λh=>by cases h),rD r (Calls.mono hc λe w'' hr=>?_)⟩;cases e with
    | returned v=>exact hK _ _ (h v w'' hr _ (ha.put (zbe hd) v))
    | _=>exact hr.elim
def aga {c:Od} {p:Prop} [Decidable p] (hc:evF σ c=.bool (decide p)) (ht:p->FW P r n x Q σ w) (hf: ¬p->FW P r n y Q σ w):FW P r n (.cond c x y) Q σ w:=
 L6 hc (λh=>ht (zbd h)) (λh=>hf (of_decide_eq_false h))
end rules

variable {E:Td}
section gives
variable {P:Program} {ρ:Od->Value} {ty:Td} {w w':Wd} {x y z:Od}
def Gives.move (h:ρ x=v):Gives P ρ (.move x) ty w v w:=λ_ _ _ _=>by subst h;rfl
def Gives.assign (h:ρ x=v):Gives P ρ (.assign x) ty w v w:=λ_ _ _ _=>by subst h;rfl
def Gives.pick {b:Bool} {u:Value} (hc:ρ z=.bool b) (hx:ρ x=u) (hy:ρ y=v):Gives P ρ (.pick z x y) ty w (if b then u else v) w:=λ_ _ _ _=>by
 simp only[execOp,hc,hx,hy];cases b<;>rfl
def Gives.aoC (hc:ρ z=.bool true) (hx:ρ x=v):Gives P ρ (.pick z x y) ty w v w:=λ_ _ _ _=>by subst hx;simp only[execOp,hc];rfl
def Gives.alJ (hc:ρ z=.bool false) (hy:ρ y=v):Gives P ρ (.pick z x y) ty w v w:=λ_ _ _ _=>by subst hy;simp only[execOp,hc];rfl
def Gives.bin {op:BinOp} {T U:Td} {a b:Value} (hx:ρ x=a) (hy:ρ y=b) (hg: ∀x y,(eqGuard op T x y a b).run P w=.ok () w) (hr:(binOp op T a b).run P w=.ok v w):Gives P ρ (.binOp op T x y U) ty w v w:=λ_ _ _ _=>by
 simp only[execOp,hx,hy,zbj,hg,hr,zan,zbl]
section ints
variable {T U:Td} {k:IntKind} {a b:Int}
def Gives.add (hx:ρ x=.int k a) (hy:ρ y=.int k b):Gives P ρ (.binOp .add T x y U) ty w (.int k (k.wrap (a+b))) w:=.bin hx hy (λ_ _=>rfl) (by rw[binOp_add];rfl)
def Gives.sub (hx:ρ x=.int k a) (hy:ρ y=.int k b):Gives P ρ (.binOp .sub T x y U) ty w (.int k (k.wrap (a-b))) w:=.bin hx hy (λ_ _=>rfl) (by rw[binOp_sub];rfl)
def Gives.mul (hx:ρ x=.int k a) (hy:ρ y=.int k b):Gives P ρ (.binOp .mul T x y U) ty w (.int k (k.wrap (a*b))) w:=.bin hx hy (λ_ _=>rfl) (by rw[binOp_mul];rfl)
def Gives.TB {c:Int} (hx:ρ x=.int .i64 a) (hy:ρ y=.int .i64 b) (he:a+b=c) (h: -9223372036854775808<=c/\c<=9223372036854775807):Gives P ρ (.binOp .add T x y U) ty w (.int .i64 c) w:=by
 have:=Gives.add (P:=P) (ty:=ty) (w:=w) (T:=T) (U:=U) hx hy;rw[he,IntWalk.i64_in _ h]at this;exact this
def Gives.ams {c:Int} (hx:ρ x=.int .i64 a) (hy:ρ y=.int .i64 b) (he:a-b=c) (h: -9223372036854775808<=c/\c<=9223372036854775807):Gives P ρ (.binOp .sub T x y U) ty w (.int .i64 c) w:=by
 have:=Gives.sub (P:=P) (ty:=ty) (w:=w) (T:=T) (U:=U) hx hy;rw[he,IntWalk.i64_in _ h]at this;exact this
def Gives.amt {c:Int} (hx:ρ x=.int .i64 a) (hy:ρ y=.int .i64 b) (he:a*b=c) (h: -9223372036854775808<=c/\c<=9223372036854775807):Gives P ρ (.binOp .mul T x y U) ty w (.int .i64 c) w:=by
 have:=Gives.mul (P:=P) (ty:=ty) (w:=w) (T:=T) (U:=U) hx hy;rw[he,IntWalk.i64_in _ h]at this;exact this
def Gives.quo (hx:ρ x=.int k a) (hy:ρ y=.int k b) (h0:b≠0):Gives P ρ (.binOp .quo T x y U) ty w (.int k (k.wrap (a.tdiv b))) w:=.bin hx hy (λ_ _=>rfl) (by rw[binOp_quo,Op.intDiv,zaa h0];rfl)
def Gives.rem (hx:ρ x=.int k a) (hy:ρ y=.int k b) (h0:b≠0):Gives P ρ (.binOp .rem T x y U) ty w (.int k (a.tmod b)) w:=.bin hx hy (λ_ _=>rfl) (by rw[binOp_rem,Op.intDiv,zaa h0];rfl)
def Gives.eql (hx:ρ x=.int k a) (hy:ρ y=.int k b):Gives P ρ (.binOp .eql T x y U) ty w (.bool (decide (a=b))) w:=.bin hx hy (λ_ _=>by rw[eqGuard_at_int];rfl) (by rw[binOp_eql];rfl)
def Gives.neq (hx:ρ x=.int k a) (hy:ρ y=.int k b):Gives P ρ (.binOp .neq T x y U) ty w (.bool (decide (a≠b))) w:=.bin hx hy (λ_ _=>by rw[eqGuard_at_int];rfl) (by rw[binOp_neq,show(a !=b)=decide (a≠b)from by rw[decide_not];rfl];rfl)
def Gives.lss (hx:ρ x=.int k a) (hy:ρ y=.int k b):Gives P ρ (.binOp .lss T x y U) ty w (.bool (decide (a<b))) w:=.bin hx hy (λ_ _=>rfl) (by rw[binOp_lss];rfl)
def Gives.leq (hx:ρ x=.int k a) (hy:ρ y=.int k b):Gives P ρ (.binOp .leq T x y U) ty w (.bool (decide (a<=b))) w:=.bin hx hy (λ_ _=>rfl) (by rw[binOp_leq];rfl)
def Gives.gtr (hx:ρ x=.int k a) (hy:ρ y=.int k b):Gives P ρ (.binOp .gtr T x y U) ty w (.bool (decide (b<a))) w:=.bin hx hy (λ_ _=>rfl) (by rw[binOp_gtr];rfl)
def Gives.geq (hx:ρ x=.int k a) (hy:ρ y=.int k b):Gives P ρ (.binOp .geq T x y U) ty w (.bool (decide (b<=a))) w:=.bin hx hy (λ_ _=>rfl) (by rw[binOp_geq];rfl)
def Gives.shl {yk:IntKind} (hx:ρ x=.int k a) (hy:ρ y=.int yk b) (h0:0<=b):Gives P ρ (.binOp .shl T x y U) ty w (.int k (k.wrap (a*2^(min b.toNat k.bits)))) w:=.bin hx hy (λ_ _=>rfl) (by rw[binOp_shl,Op.shift,zaa oM];rfl)
def Gives.shr {yk:IntKind} (hx:ρ x=.int k a) (hy:ρ y=.int yk b) (h0:0<=b):Gives P ρ (.binOp .shr T x y U) ty w (.int k (a.fdiv (2^(min b.toNat k.bits)))) w:=.bin hx hy (λ_ _=>rfl) (by rw[binOp_shr,Op.shift,zaa oM];rfl)
def Gives.and (hx:ρ x=.int k a) (hy:ρ y=.int k b):Gives P ρ (.binOp .and T x y U) ty w (.int k (bits .and k a b)) w:=.bin hx hy (λ_ _=>rfl) (by rw[binOp_and];rfl)
def Gives.or (hx:ρ x=.int k a) (hy:ρ y=.int k b):Gives P ρ (.binOp .or T x y U) ty w (.int k (bits .or k a b)) w:=.bin hx hy (λ_ _=>rfl) (by rw[binOp_or];rfl)
def Gives.xor (hx:ρ x=.int k a) (hy:ρ y=.int k b):Gives P ρ (.binOp .xor T x y U) ty w (.int k (bits .xor k a b)) w:=.bin hx hy (λ_ _=>rfl) (by rw[binOp_xor];rfl)
end ints
class Zt (P:Program) (t:Td):Prop where
 und:P.underlying t=some .bool:=by kernel_rfl
def Gives.aq1 {T U:Td} [h:Zt P T] {a b:Bool} (hx:ρ x=.bool a) (hy:ρ y=.bool b):Gives P ρ (.binOp .eql T x y U) ty w (.bool (a==b)) w:=.bin hx hy (λ_ _=>by rw[eqGuard_at_bool];rfl) (run_eql_bool _ _ _ _ h.und)
def Gives.aq2 {T U:Td} [h:Zt P T] {a b:Bool} (hx:ρ x=.bool a) (hy:ρ y=.bool b):Gives P ρ (.binOp .neq T x y U) ty w (.bool (!(a==b))) w:=.bin hx hy (λ_ _=>by rw[eqGuard_at_bool];rfl) (run_neq_bool _ _ _ _ h.und)
def Gives.aq3 {T U:Td} {a b:ByteArray} (hx:ρ x=.string a) (hy:ρ y=.string b):Gives P ρ (.binOp .eql T x y U) ty w (.bool (a.toList==b.toList)) w:=.bin hx hy (λ_ _=>by rw[eqGuard_at_string];rfl) rfl
def Gives.aq4 {T U:Td} {a b:ByteArray} (hx:ρ x=.string a) (hy:ρ y=.string b):Gives P ρ (.binOp .neq T x y U) ty w (.bool (!(a.toList==b.toList))) w:=.bin hx hy (λ_ _=>by rw[eqGuard_at_string];rfl) rfl
def Gives.not {b:Bool} {T:Td} (hx:ρ x=.bool b):Gives P ρ (.unOp .not T x) ty w (.bool (!b)) w:=λ_ _ _ _=>by simp only[execOp,hx];rfl
def Gives.notP {p:Prop} [Decidable p] {T:Td} (hx:ρ x=.bool (decide p)):Gives P ρ (.unOp .not T x) ty w (.bool (decide (¬p))) w:=by
 have:=Gives.not (P:=P) (ty:=ty) (w:=w) (T:=T) hx;rw[show(!decide p)=decide (¬p)from sM]at this;exact this
def Gives.neg {k:IntKind} {a:Int} {T:Td} (hx:ρ x=.int k a):Gives P ρ (.unOp .neg T x) ty w (.int k (k.wrap (0-a))) w:=λ_ _ _ _=>by simp only[execOp,hx];rfl
def Gives.nilCheck {a:Addr} (hx:ρ x=.pointer (some a)):Gives P ρ (.nilCheck x) ty w (.pointer (some a)) w:=λ_ _ _ _=>by simp only[execOp,hx];rfl
def Gives.aoD {s t:Td} {k j:IntKind} {a:Int} (hs:(P.underlying s).isSome=true) (ht:P.underlying t=some (.int k)) (hx:ρ x=.int j a):Gives P ρ (.convert s t x) ty w (.int k (k.wrap a)) w:=λ_ _ _ _=>by
 obtain⟨d,hd⟩:=Option.isSome_iff_exists.1 hs;simp[execOp,hx,convert,run_underlying hd,run_underlying ht,Conv.intToInt]
class abS (P:Program) (t:Td):Prop where
 und: ∃e,P.underlying t=some (.pointer e)
def DV (d:Nat) {T e:Td} (he:P.underlying T=some (.pointer e)) (a:OA):(Op.equalIn (d+1) T (.pointer a) (.pointer none)).run P w=.ok a.isNone w:=by
 cases a<;>simp[Op.equalIn,run_underlying he]
def xH {T:Td} [h:abS P T] (a:OA):(Op.equal T (.pointer a) (.pointer none)).run P w=.ok a.isNone w:=by
 obtain⟨e,he⟩:=h.und;exact DV 9999 he a
def Gives.amu {T U:Td} [abS P T] {a:OA} (hx:ρ x=.pointer a) (hy:ρ y=.pointer none):Gives P ρ (.binOp .eql T x y U) ty w (.bool a.isNone) w:=
 .bin hx hy (λ_ _=>by rw[eqGuard_at_pointer];rfl) (by simp[binOp,xH])
def Gives.amv {T U:Td} [abS P T] {a:OA} (hx:ρ x=.pointer a) (hy:ρ y=.pointer none):Gives P ρ (.binOp .neq T x y U) ty w (.bool (!a.isNone)) w:=
 .bin hx hy (λ_ _=>by rw[eqGuard_at_pointer];rfl) (by simp[binOp,xH])
class CX (P:Program) (s f:Nat) (k:outParam Nat):Prop where
 run: ∀a w,(Instr.fieldAt s (.pointer (some a)) f).run P w=.ok (.pointer (some (a.add k))) w:=by intro _ _;kernel_rfl
def Gives.yt {s f k b:Nat} [h:CX P s f k] (hx:ρ x=.pointer (some ⟨b,0,none⟩)):Gives P ρ (.fieldAddr s x f) ty w (.pointer (some ⟨b,k,none⟩)) w:=λ_ _ _ _=>by
 simp only[execOp,hx,zbj,h.run,zan,zbl,Addr.add_lit,zdc]
def Gives.field {s f k b o:Nat} [h:CX P s f k] (hx:ρ x=.pointer (some ⟨b,o,none⟩)):Gives P ρ (.fieldAddr s x f) ty w (.pointer (some ⟨b,o+k,none⟩)) w:=λ_ _ _ _=>by
 simp only[execOp,hx,zbj,h.run,zan,zbl,Addr.add_lit]
class OneCell (P:Program) (t:Td):Prop where
 agg: ∀w,(isAgg t).run P w=.ok false w:=by intro _;kernel_rfl
 size: ∀w,(sizeOf t).run P w=.ok 1 w:=by intro _;kernel_rfl
class Agg (P:Program) (t:Td) (k:outParam Nat):Prop where
 agg: ∀w,(isAgg t).run P w=.ok true w:=by intro _;kernel_rfl
 size: ∀w,(sizeOf t).run P w=.ok k w:=by intro _;kernel_rfl
class Zero (P:Program) (t:Td) (z:outParam Value):Prop where
 run: ∀w,(zeroValue t).run P w=.ok z w:=by intro _;kernel_rfl
class dn (P:Program) (t:Td) (e:outParam Td):Prop where
 und:P.underlying t=some (.slice e):=by kernel_rfl
class zM (P:Program) (t:Td) (m:outParam Nat) (e:outParam Td):Prop where
 und:P.underlying t=some (.array m e):=by kernel_rfl
class IsMap (P:Program) (t:Td) (k e:outParam Td):Prop where
 und:P.underlying t=some (.map k e):=by kernel_rfl
class nk (P:Program) (t:Td) (k:outParam IntKind):Prop where
 und:P.underlying t=some (.int k):=by kernel_rfl
class lX (P:Program) (t:Td):Prop where
 und:P.underlying t=some .string:=by kernel_rfl
class Cells (P:Program) (t:Td) (k b:outParam Nat):Prop where
 size:(P.info? t).map (λi=>(i.size,i.bytes))=some (k,b):=by kernel_rfl
def jW {b:Nat} {cs:LV} (h:w.heap[b]? =some (.cells cs.toArray E (0,0))) (i:Nat):w.cell? ⟨b,i,none⟩=cs[i]? :=by
 rw[cell_of_row w b i _ _ _ h];simp
def Gives.nu {T b o:Nat} [h1:OneCell P T] {cs:LV} (hx:ρ x=.pointer (some ⟨b,o,none⟩)) (hb:w.heap[b]? =some (.cells cs.toArray E (0,0))) (hv:cs[o]? =some v):Gives P ρ (.load T x) ty w v w:=λ_ _ _ _=>by
 simp[execOp,hx,Instr.loadAt,Instr.sureAddr,loadVar,h1.agg,jW hb,hv]
def xI {b o k:Nat} {cs:LV} (hb:w.heap[b]? =some (.cells cs.toArray E (0,0))) {us:LV} (hu:(cs.drop o).take k=us) (hk:us.length=k):
    (loadCells ⟨b,o,none⟩ k).run P w=.ok us.toArray w:=by
  have:=run_loadCells_list (P:=P) w ⟨b,o,none⟩ us (λj v hj=>by
    rw[Addr.add_lit,jW hb];rw[<-hu,zcu]at hj
    split at hj
    . rw[zcj]at hj;exact hj
    cases hj)
  rw[hk]at this;exact this
def Gives.Ky {T b o k:Nat} [h1:Agg P T k] {cs:LV} {us:LV} (hx:ρ x=.pointer (some ⟨b,o,none⟩)) (hb:w.heap[b]? =some (.cells cs.toArray E (0,0))) (hu:(cs.drop o).take k=us) (hk:us.length=k):Gives P ρ (.load T x) ty w (.agg us.toArray) w:=λ_ _ _ _=>by
 simp[execOp,hx,Instr.loadAt,Instr.sureAddr,loadVar,h1.agg,h1.size,xI hb hu hk]
end gives
end Go.Proofs.Mw
