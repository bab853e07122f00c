/-
 Short names.
-/
import Derived.WalkKit
import Derived.Orders
import Derived.Still
import Derived.TacticsIn
import Derived.OrdersIn
import Derived.RangeFuncCalls
import Derived.RangeFuncLeaves
import Derived.RangeFuncRecord
import Derived.Laws.Rows
import Derived.Laws.Append
import Derived.Laws.MakeOwn
import Derived.IntWalk
set_option linter.unusedVariables false
set_option linter.unusedSimpArgs false
namespace Go
abbrev L8:=List UInt8
abbrev LV:=List Value
abbrev OA:=Option Addr
abbrev LNB:=List (Nat×Bool)
abbrev NP:=Nat->Prop
abbrev AO:=Array Oper
abbrev LO:=List Oper
abbrev Wd:=World
abbrev Td:=TypeId
abbrev Od:=Operand
theorem tR {p:Prop} (h:p:=by repeat (first | exact trivial | refine⟨rfl,?_⟩)):p:=h
theorem oM {p:Prop} (h:p:=by omega):p:=h
theorem kR {p:Prop} (h:p:=by kernel_rfl):p:=h
theorem dO {p:Prop} (h:p:=by dsimp only;omega):p:=h
theorem sM {p:Prop} (h:p:=by simp):p:=h
theorem dC {p:Prop} (h:p:=by decide):p:=h
abbrev zaa:=@List.getElem?_eq_getElem
abbrev zab:=@if_neg
abbrev zac:=@if_pos
abbrev zad:=@List.length_append
abbrev zae:=@List.mem_cons_self
abbrev zaf:=@List.length_map
abbrev zag:=@List.mem_cons_of_mem
abbrev zah:=@List.length_singleton
abbrev zai:=@Result.andThen_ok
abbrev zaj:=@List.length_take
abbrev zak:=@List.getD_eq_getElem?_getD
abbrev zal:=@List.length_cons
abbrev zam:=@List.mem_of_getElem?
abbrev zan:=@List.mem_cons
abbrev zao:=@List.not_mem_nil
abbrev zap:=@absurd
abbrev zaq:=@Nat.zero_le
abbrev zar:=@List.mem_singleton
abbrev zas:=@decide_eq_false
abbrev zat:=@List.mem_map
abbrev zau:=@List.map_append
abbrev zav:=@Option.map_eq_some_iff
abbrev zaw:=@Nat.le_of_ble_eq_true
abbrev zax:=@List.take_of_length_le
abbrev zay:=@List.map_cons
abbrev zaz:=@List.getElem?_eq_some_iff
abbrev zba:=@of_decide_eq_true
abbrev zbb:=@congrArg
abbrev zbc:=@List.flatMap_cons
abbrev zbd:=@List.take_add_one
abbrev zbe:=@List.eq_nil_of_length_eq_zero
abbrev zbf:=@List.all_eq_true
abbrev zbg:=@decide_eq_decide
abbrev zbh:=@Sem.run_bind
abbrev zbi:=@List.mem_append
abbrev zbj:=@decide_eq_true
abbrev zbk:=@Nat.le_refl
abbrev zbl:=@Array.getD_eq_getD_getElem?
abbrev zbm:=@Sem.run_pure
abbrev zbn:=@List.drop_eq_getElem_cons
abbrev zbo:=@List.take_length
abbrev zbp:=@List.append_assoc
abbrev zbq:=@List.length_drop
abbrev zbr:=@Bool.and_eq_true
abbrev zbs:=@List.take_append_drop
abbrev zbt:=@Array.getElem?_setIfInBounds
abbrev zbu:=@List.drop_of_length_le
abbrev zbv:=@List.getElem?_append_right
abbrev zbw:=@List.mem_filter
abbrev zbx:=@List.cons_append
abbrev zby:=@List.flatMap_append
abbrev zbz:=@List.getElem?_append_left
abbrev zca:=@Classical.not_not
abbrev zcb:=@List.nil_append
abbrev zcc:=@List.getElem?_cons_zero
abbrev zcd:=@List.mem_append_left
abbrev zce:=@List.mem_append_right
abbrev zcf:=@List.find?_cons
abbrev zcg:=@List.map_toArray
abbrev zch:=@List.getElem?_cons_succ
abbrev zci:=@List.append_nil
abbrev zcj:=@List.contains_iff_mem
abbrev zck:=@List.getElem?_take
abbrev zcl:=@Nat.le_trans
abbrev zcm:=@List.map_nil
abbrev zcn:=@List.getElem?_eq_none
abbrev zco:=@List.getElem?_drop
abbrev zcp:=@List.pairwise_cons
abbrev zcq:=@Array.getElem?_eq_some_iff
abbrev zcr:=@List.getElem?_map
abbrev zcs:=@Array.getElem?_modify
abbrev zct:=@List.findIdx?_eq_some_iff_getElem
abbrev zcu:=@List.length_nil
abbrev zcv:=@Nat.min_eq_left
abbrev zcw:=@List.map_congr_left
abbrev zcx:=@List.take_succ_cons
abbrev zcy:=@List.mem_of_mem_take
abbrev zcz:=@List.mem_flatMap
abbrev zda:=@Option.map_some
abbrev zdb:=@List.drop_zero
abbrev zdc:=@List.getElem?_of_mem
abbrev zdd:=@Array.getElem?_eq_none
abbrev zde:=@Int.toNat_of_nonneg
abbrev zdf:=@Option.getD_some
abbrev zdg:=@Bool.not_eq_true
abbrev zdh:=@Bool.not_eq_true'
abbrev zdi:=@List.take_zero
abbrev zdj:=@Array.getElem?_eq_getElem
abbrev zdk:=@Option.bind_some
abbrev zdl:=@List.filter_sublist
abbrev zdm:=@Nat.zero_add
abbrev zdn:=@List.length_range
abbrev zdo:=@Int.toNat_natCast
abbrev zdp:=@List.mem_range
abbrev zdq:=@Option.bind_eq_some_iff
abbrev zdr:=@Nat.lt_or_ge
abbrev zds:=@Nat.succ_mul
abbrev zdt:=@List.map_map
abbrev zdu:=@List.mem_map_of_mem
abbrev zdv:=@List.mem_of_find?_eq_some
abbrev zdw:=@List.findIdx?_eq_none_iff
abbrev zdx:=@Bool.eq_iff_iff
abbrev zdy:=@List.getElem?_toArray
abbrev zdz:=@Array.getElem?_replicate
abbrev zea:=@List.set_cons_zero
abbrev zeb:=@Nat.eq_zero_or_pos
abbrev zec:=@Array.size_setIfInBounds
abbrev zed:=@Option.toList_some
abbrev zee:=@List.take_append_of_le_length
abbrev zef:=@List.getElem?_mapIdx
abbrev zeg:=@Bool.true_and
abbrev zeh:=@List.ext_getElem?
abbrev zei:=@List.nodup_append
abbrev zej:=@Nat.not_lt_zero
abbrev zek:=@List.drop_succ_cons
abbrev zel:=@List.filter_cons
abbrev zem:=@List.flatMap_nil
abbrev zen:=@List.find?_eq_none
abbrev zeo:=@List.length_replicate
abbrev zep:=@List.length_filter_le
abbrev zeq:=@Array.getElem?_setIfInBounds_ne
abbrev zer:=@List.nodup_cons
abbrev zes:=@Option.isSome_iff_exists
abbrev zet:=@Nat.sub_self
abbrev zeu:=@List.exists_cons_of_length_pos
abbrev zev:=@List.getD_cons_zero
abbrev zew:=@List.filter_eq_self
abbrev zex:=@Array.toList_modify
abbrev zey:=@Int.eq_ofNat_of_zero_le
abbrev zez:=@List.length_pos_iff
abbrev zfa:=@List.replicate_succ
abbrev zfb:=@Nat.lt_succ_self
abbrev zfc:=@List.drop_append_of_le_length
abbrev zfd:=@List.drop_length
abbrev zfe:=@Option.map_eq_none_iff
abbrev zff:=@Nat.add_zero
abbrev zfg:=@Nat.sub_zero
abbrev zfh:=@Array.getElem?_append
abbrev zfi:=@List.length_mergeSort
abbrev zfj:=@List.set_append_right
abbrev zfk:=@List.size_toArray
abbrev zfl:=@Array.toList_push
abbrev zfm:=@Array.getElem?_append_left
abbrev zfn:=@Int.fdiv_eq_ediv_of_nonneg
abbrev zfo:=@List.mem_iff_getElem
abbrev zfp:=@List.mem_of_mem_drop
abbrev zfq:=@List.extract_eq_take_drop
abbrev zfr:=@List.pairwise_iff_getElem
abbrev zfs:=@List.drop_drop
abbrev zft:=@List.getElem?_eq_none_iff
abbrev zfu:=@List.getElem_mem
abbrev zfv:=@List.getD_cons_succ
abbrev zfw:=@Array.toList_filter
abbrev zfx:=@List.getElem_of_mem
abbrev zfy:=@Array.length_toList
abbrev zfz:=@List.length_zipWith
abbrev zga:=@List.filter_append
abbrev zgb:=@List.set_cons_succ
abbrev zgc:=@List.findIdx?_cons
abbrev zgd:=@List.length_set
abbrev zge:=@Bool.false_and
abbrev zgf:=@Nat.add_comm
end Go
namespace Go.Mw
open Go.RowKit
structure St where
 get:Nat->Value
 ds:List Deferred
instance:CoeFun St (λ_=>Nat->Value):=⟨St.get⟩
theorem St.YJ {σ τ:St} (h: ∀x,σ x=τ x) (hd:σ.ds=τ.ds):σ=τ:=by
 cases σ;cases τ;simp only at hd;subst hd;congr 1;exact funext h
def upd (σ:St) (d:Nat) (v:Value):St:={get:=λx=>bif Nat.beq x d then v else σ x,ds:=σ.ds}
theorem upd_same (σ:St) (d:Nat) (v:Value):(upd σ d v).get d=v:=by simp[upd]
theorem upd_ne (σ:St) (d:Nat) (v:Value) (x:Nat) (h:x≠d):(upd σ d v).get x=σ.get x:=by
 have :Nat.beq x d=false:=by
  cases hb:Nat.beq x d
  .rfl
  exact zap (Nat.eq_of_beq_eq_true hb) h
 simp[upd,this]
theorem aS (σ:St) (d:Nat) (v:Value):(upd σ d v).ds=σ.ds:=rfl
def qC (σ:St):Option Nat->Value->St
 | some d,v=>upd σ d v
 | none,_=>σ
theorem Dt (σ:St) (o:Option Nat) (v:Value):(qC σ o v).ds=σ.ds:=by cases o<;>rfl
def und:St:=⟨λ_=>undef,[]⟩
def evF (σ:St):Od->Value
 | .tmp t=>σ t
 | .const v=>v
 | .global g=>.pointer (some ⟨g,0,none⟩)
 | .func f=>.func (.func f) #[] #[]
theorem pD {p:Prop} (h:p:=by first | with_reducible exact rfl | kernel_rfl):p:=h
theorem eV {p:Prop} (h:p:=by simp only[evF,upd_same,upd_ne,ne_eq,Nat.reduceEqDiff,not_false_eq_true];rfl):p:=h

structure Rep (n:Nat) (σ:St) (a:Act):Prop where
 size:a.tmps.size=n
 defers:a.defers=σ.ds
 get: ∀i,a.tmps.getD i undef=σ i

section
variable {n:Nat} {σ:St} {a:Act}
theorem Rep.eval (h:Rep n σ a):a.eval=evF σ:=by
 funext x
 cases x with
 | tmp t=>exact h.get t
 | _=>rfl
theorem Rep.put (h:Rep n σ a) {d:Nat} (hd:d<n) (v:Value):Rep n (upd σ d v) (a.put (some d) v):=by
 refine⟨by simpa[Act.put]using h.size,h.defers,λi=>?_⟩
 by_cases hi:i=d
 .subst hi
  have :i<a.tmps.size:=by rw[h.size];exact hd
  simp[Act.put,upd_same,zbl,this]
 rw[upd_ne _ _ _ _ hi,<-h.get i];simp[Act.put,zbl,zeq (Ne.symm hi)]
def Nh (n:Nat):Option Nat->Bool
 | some d=>Nat.blt d n
 | none=>true
theorem Rep.MB (h:Rep n σ a) {d:Option Nat} (hd:Nh n d=true) (v:Value):Rep n (qC σ d v) (a.put d v):=by
 cases d with
 | none=>exact h
 | some d=>exact h.put (zaw hd) v
end

def bX (ops:AO) (σ:St) (j:Nat):Option Bool:=
 match(ops[j]?).bind (·.dst)with
 | some d=>(match σ d with | .bool b=>some b | _=>none)
 | none=>none
theorem Rep.yielded {n:Nat} {σ:St} {a:Act} (h:Rep n σ a) (ops:AO) (hd: ∀(j:Nat) (d:Nat),(ops[j]?).bind (λo:Oper=>o.dst)=some d->d<n):Go.yielded ops a.tmps=bX ops σ:=by
 funext j
 unfold Go.yielded bX;cases hj:(ops[j]?).bind (·.dst)with
 | none=>rfl
 | some d=>
  have bH:d<a.tmps.size:=by rw[h.size];exact hd j d hj
  have hg:=h.get d
  have :a.tmps[d]? =some (σ d):=by
   rw[zdj bH,<-hg];simp[zbl,bH]
  simp only[zdk,this]
  split<;>rename_i hq<;>first | (injection hq with hq;rw[hq]) | (split<;>first | rfl | (rename_i pF;exact zap (by rw[pF]) (hq _)))
theorem Rep.JX {n:Nat} {σ:St} {a:Act} (h:Rep n σ a) (ops:AO) {j:Nat} {d:Nat} (hj:(ops[j]?).bind (λo:Oper=>o.dst)=some d) {b:Bool} (hb:σ d=.bool b):Go.yielded ops a.tmps j=some b:=by
 unfold Go.yielded;have hg:=h.get d;rw[hb]at hg
 have :a.tmps[d]? =some (.bool b):=by
  cases hq:a.tmps[d]? with
  | none=>simp[zbl,hq,undef]at hg
  | some v=>simp[zbl,hq]at hg;rw[hg]
 simp only[hj,zdk,this]

abbrev Post:=Exit->St->Wd->Prop
def lift (n:Nat) (Q:Post):Exit->Act->Wd->Prop:=λe a w=>∃σ,Rep n σ a/\Q e σ w

def fen (r:Option Nat):Fence:={fn:=λ_=>True,depth:=none,alive:=false,round:=r}
theorem ql {P:Program} {f:FuncId} {args:Array Value} {w:Wd} {R:Ending->Wd->Prop} (r:Option Nat) (h:Calls P f args w R):CallsIn (fen r) 0 P f args w R:=callsIn_wide.2 h
def FW (P:Program) (r:Option Nat) (n:Nat) (c:Code) (Q:Post) (σ:St) (w:Wd):Prop:=∀a,Rep n σ a->c.wpIn (fen r) 0 P (lift n Q) a w
def FL (P:Program) (r:Option Nat) (n:Nat) (ops:AO) (Q:Post) (rest:LO) (σ:St) (w:Wd):Prop:=∀a,Rep n σ a->wpListIn (fen r) 0 P ops (lift n Q) rest a w

def fZ (P:Program) (r:Option Nat) (n:Nat) (b:Code) (Q:Post):Post:=λe σ w=>match e with
 | .normal=>FW P r n b Q σ w
 | e=>Q e σ w
def gG (id:Nat) (Q:Post):Post:=λe σ w=>match e with
 | .exit id'=>if id'=id then Q .normal σ w else Q (.exit id') σ w
 | e=>Q e σ w

section
variable {P:Program} {r:Option Nat} {n:Nat} {Q:Post} {σ:St} {w:Wd}
theorem FW.mono {c:Code} {Q':Post} (h:FW P r n c Q σ w) (hq: ∀e σ w,Q e σ w->Q' e σ w):FW P r n c Q' σ w:=
 λa ha=>Go.wpIn_mono (h a ha) λ_ _ _ ⟨s,hs,hQ⟩=>⟨s,hs,hq _ _ _ hQ⟩
theorem bC {b:Code} (h:FW P r n b Q σ w):fZ P r n b Q .normal σ w:=h
theorem dM {b:Code} (h:Q .ret σ w):fZ P r n b Q .ret σ w:=h
theorem vD {b:Code} {id:Nat} (h:Q (.exit id) σ w):fZ P r n b Q (.exit id) σ w:=h
theorem uo {id:Nat} (h:Q .normal σ w):gG id Q .normal σ w:=h
theorem bM {id:Nat} (h:Q .ret σ w):gG id Q .ret σ w:=h
theorem Al {id:Nat} (h:Q .normal σ w):gG id Q (.exit id) σ w:=by simp only[gG,if_true];exact h
theorem rR {id id':Nat} (iC:Nat.beq id' id=false) (h:Q (.exit id') σ w):gG id Q (.exit id') σ w:=by
 have :id'≠id:=λe=>by subst e;simp at iC
 simp only[gG,zab this];exact h

theorem dW {x y:Code} (h:FW P r n x (fZ P r n y Q) σ w):FW P r n (.seq x y) Q σ w:=λa ha=>
 wpIn_seq (Go.wpIn_mono (h a ha) λe _ _ ⟨s,hs,hQ⟩=>by
  cases e<;>first | exact hQ _ hs | exact⟨s,hs,hQ⟩)
theorem YK (h:Q .normal σ w):FW P r n .skip Q σ w:=λ_ ha=>wpIn_skip ⟨σ,ha,h⟩
theorem dX (h:Q .ret σ w):FW P r n .ret Q σ w:=λ_ ha=>wpIn_ret ⟨σ,ha,h⟩
theorem JC {id:Nat} (h:Q (.exit id) σ w):FW P r n (.exit id) Q σ w:=λ_ ha=>wpIn_exit ⟨σ,ha,h⟩
theorem vE {id:Nat} {c:Code} (h:FW P r n c (gG id Q) σ w):FW P r n (.block id c) Q σ w:=λa ha=>
 wpIn_block (Go.wpIn_mono (h a ha) λe a' w' ⟨s,hs,hQ⟩=>by
  cases e with
  | exit id'=>
   by_cases hid:id'=id
   .subst hid;simp only[gG,if_true]at hQ;simp only[Exit.inBlock,if_true];exact⟨s,hs,hQ⟩
   simp only[gG,zab hid]at hQ;simp only[Exit.inBlock,zab hid];exact⟨s,hs,hQ⟩
  | _=>exact⟨s,hs,hQ⟩)
theorem JD {c:Od} {x y:Code} {t:Bool} (hc:evF σ c=.bool t) (ht:t=true->FW P r n x Q σ w) (hf:t=false->FW P r n y Q σ w):FW P r n (.cond c x y) Q σ w:=λa ha=>
 wpIn_cond_split (by rw[ha.eval];exact hc) (λh=>ht h a ha) (λh=>hf h a ha)
theorem rT {c:Od} {x y:Code} (hc:evF σ c=.bool true) (h:FW P r n x Q σ w):FW P r n (.cond c x y) Q σ w:=JD hc (λ_=>h) (λh=>by cases h)
theorem BO {c:Od} {x y:Code} (hc:evF σ c=.bool false) (h:FW P r n y Q σ w):FW P r n (.cond c x y) Q σ w:=JD hc (λh=>by cases h) (λ_=>h)
theorem EF {id:Nat} {l:LO} (h:FL P r n l.toArray Q l σ w):FW P r n (.region id l.toArray false) Q σ w:=λa ha=>wpIn_region_lit (h a ha)

def cK (σ:St):List (Nat×Value)->St
 | []=>σ
 | (d,v)::l=>upd (cK σ l) d v
def holds (σ:St):List (Nat×Value)->Prop
 | []=>True
 | (d,v)::l=>σ d=v/\holds σ l
theorem sH (σ:St) (d:Nat):upd σ d (σ d)=σ:=by
 refine St.YJ (λx=>?_) rfl
 by_cases h:x=d
 .subst h;simp[upd_same]
 simp[upd_ne _ _ _ _ h]
theorem qB {σ:St}: ∀{l:List (Nat×Value)},holds σ l->cK σ l=σ
 | [],_=>rfl
 | (d,v)::l,⟨h,hl⟩=>by
  show upd (cK σ l) d v=σ
  rw[qB hl,<-h,sH]

def like (σ τ:St):St:=⟨τ.get,σ.ds⟩
theorem bK:und.ds=[]:=rfl
theorem EG {σ τ:St} (h:τ.ds=σ.ds):like σ τ=τ:=St.YJ (λ_=>rfl) h.symm
theorem agk {X:Type} {c:Code} (l:X->List (Nat×Value)) (I:X->Wd->Prop) (m:X->Wd->Nat) (x₀:X) (h₀:holds σ (l x₀)) (hI:I x₀ w)
    (round: ∀x τ w,I x w->FW P r n c (λe σ' w'=>match e with | .normal=>σ'.ds=σ.ds/\∃x',holds σ' (l x')/\I x' w'/\m x' w'<m x w | e=>Q e σ' w') (cK (like σ τ) (l x)) w):FW P r n (.loop c) Q σ w:=by
  intro a ha b kk cs hro hb hr
  have key: ∀k a w,(∃x σ',Rep n σ' a/\σ'.ds=σ.ds/\holds σ' (l x)/\I x w/\m x w=k)->
      ∃e a' w',lift n Q e a' w'/\ArrivesIn (Machine.fenced P (fen r)) P (lone (b.atR a (.code c:: .inLoop c::kk)) cs w) b kk cs e a' w':=by
    intro k
    induction k using Nat.strongRecOn with
    | _ k ih=>
      rintro a w ⟨x,σ',hrp,VU,hh,hi,hm⟩;have F6:=round x σ' w hi;rw[EG VU,qB hh]at F6;obtain⟨e,a₁,w₁,⟨s,hs,hq⟩,VF⟩:=F6 a hrp b (.inLoop c::kk) cs hro hb hr;cases e with
      | normal=>
        obtain⟨anv,x',EC,Zx,bH⟩:=hq;obtain⟨e₂,a₂,w₂,hq2,harr2⟩:=ih _ oM a₁ w₁ ⟨x',s,hs,anv,EC,Zx,rfl⟩;exact⟨e₂,a₂,w₂,hq2,.of_steps (StepsIn.trans VF (.one (fenced_calm hb hr rfl) stepR_inLoop)) harr2⟩
      | exit id=>exact⟨_,a₁,w₁,⟨s,hs,hq⟩,.pass (x:=.inLoop c) rfl (λ_ _=>.inl sM) VF⟩
      | goto g=>exact⟨_,a₁,w₁,⟨s,hs,hq⟩,.pass (x:=.inLoop c) rfl (λ_ _=>.inl sM) VF⟩
      | ret=>exact⟨_,a₁,w₁,⟨s,hs,hq⟩,.pass (x:=.inLoop c) rfl (λ_ _=>.inl sM) VF⟩
      | panic chain=>exact⟨_,a₁,w₁,⟨s,hs,hq⟩,.pass (x:=.inLoop c) rfl (λ_ _=>.inl sM) VF⟩
      | outgrown=>exact⟨_,a₁,w₁,⟨s,hs,hq⟩,.pass (x:=.inLoop c) rfl (λ_ _=>.inl sM) VF⟩
  obtain⟨e,a',w',hq,VF⟩:=key _ a w ⟨x₀,σ,ha,rfl,h₀,hI,rfl⟩;exact⟨e,a',w',hq,.of_steps (.one (fenced_calm hb hr rfl) stepR_loop) VF⟩
def cO {X:Type} (ds:List Deferred) (l:X->List (Nat×Value)) (I:X->Wd->Prop) (m:X->Wd->Nat) (x:X) (w:Wd) (Q:Post):Post:=
 λe σ' w'=>match e with | .normal=>σ'.ds=ds/\∃x',holds σ' (l x')/\I x' w'/\m x' w'<m x w | e=>Q e σ' w'
theorem aR {X:Type} {c:Code} (l:X->List (Nat×Value)) (I:X->Wd->Prop) (m:X->Wd->Nat) (x₀:X) (h₀:holds σ (l x₀)) (hI:I x₀ w)
    (round: ∀x τ w,I x w->FW P r n c (cO σ.ds l I m x w Q) (cK (like σ τ) (l x)) w):FW P r n (.loop c) Q σ w:=agk l I m x₀ h₀ hI round
section
variable {X:Type} {ds:List Deferred} {l:X->List (Nat×Value)} {I:X->Wd->Prop} {m:X->Wd->Nat} {x:X} {w0:Wd}
theorem aj (x':X) (h:holds σ (l x')) (hI:I x' w) (hm:m x' w<m x w0) (hd:σ.ds=ds:=by exact rfl):cO ds l I m x w0 Q .normal σ w:=⟨hd,x',h,hI,hm⟩
theorem lQ (h:Q .ret σ w):cO ds l I m x w0 Q .ret σ w:=h
theorem yZ {id:Nat} (h:Q (.exit id) σ w):cO ds l I m x w0 Q (.exit id) σ w:=h
end
def gW {X:Type} (ds:List Deferred) (l:X->List (Nat×Value)) (I:X->Wd->Prop) (Q:Post):Post:=
 λe σ' w'=>match e with | .normal=>σ'.ds=ds/\∃x',holds σ' (l x')/\I x' w' | e=>Q e σ' w'
theorem aA {X:Type} {ds:List Deferred} {l:X->List (Nat×Value)} {I:X->Wd->Prop} (x':X) (h:holds σ (l x')) (hI:I x' w) (hd:σ.ds=ds:=by exact rfl):gW ds l I Q .normal σ w:=⟨hd,x',h,hI⟩
theorem jR {X:Type} {ds:List Deferred} {l:X->List (Nat×Value)} {I:X->Wd->Prop} (h:Q .ret σ w):gW ds l I Q .ret σ w:=h
theorem ZO {X:Type} {ds:List Deferred} {l:X->List (Nat×Value)} {I:X->Wd->Prop} {id:Nat} (h:Q (.exit id) σ w):gW ds l I Q (.exit id) σ w:=h
theorem fB {X:Type} {x y:Code} (l:X->List (Nat×Value)) (I:X->Wd->Prop) (h:FW P r n x (gW σ.ds l I Q) σ w)
    (h': ∀z τ w,I z w->FW P r n y Q (cK (like σ τ) (l z)) w):FW P r n (.seq x y) Q σ w:=by
  refine dW (h.mono λe s w hq=>?_);cases e with
  | normal=>obtain⟨hd,z,hh,hI⟩:=hq;have:=h' z s w hI;rw[EG hd,qB hh]at this;exact this
  | _=>exact hq
end

def lS (σ:St):List ResultVar->Option (LV)
 | []=>some []
 | .tmp t::l=>(lS σ l).map (σ t:: ·)
 | _::_=>none
def eP:LV->Value
 | [v]=>v
 | vs=>.tuple vs.toArray
theorem PN {P:Program} {w:Wd} {σ:St} (g:ResultVar->Sem Value) (hg: ∀t,g (.tmp t)=pure (σ t)): ∀(l:List ResultVar) (vs:LV),lS σ l=some vs->
    (List.mapM g l).run P w=.ok vs w:=by
  intro l
  induction l with
  | nil=>intro vs h;simp[lS]at h;subst h;rfl
  | cons r l ih=>
    intro vs h;cases r with
    | cell a t=>simp[lS]at h
    | tmp t=>
      simp only[lS,zav]at h;obtain⟨us,hu,rfl⟩:=h;rw[List.mapM_cons,hg];simp[ih us hu]
theorem oU {P:Program} {w:Wd} {fn:Func} {tmps:Array Value} {σ:St} (hσ: ∀i,tmps.getD i undef=σ i) {l:List ResultVar} (hl:fn.results=l.toArray) {vs:LV} (h:lS σ l=some vs):
    (results fn tmps).run P w=.ok (eP vs) w:=by
  unfold results;rw[hl,List.mapM_toArray]
  have:=PN (P:=P) (w:=w) (σ:=σ) (λ
    | .tmp t=>pure (tmps.getD t undef)
    | .cell a t=>do loadVar t (<-asAddr (tmps.getD a undef))) (λt=>by simp[hσ]) l vs h
  rw[zbh,Sem.run_map];refine(zbb (λr=>(Result.andThen r _).andThen _) this).trans ?_;simp only[zai]
  match vs with
  | []=>simp[eP]
  | [v]=>simp[eP]
  | u::v::us=>simp[eP]

def Ret (R:Value->Wd->Prop):Ending->Wd->Prop:=λe w=>match e with
 | .returned v=>R v w
 | _=>False
def aY (P:Program) (f:FuncId) (args:LV) (w:Wd) (R:Value->Wd->Prop):Prop:=Calls P f args.toArray w (Ret R)
theorem aY.mono {P:Program} {f:FuncId} {args:LV} {w:Wd} {R R':Value->Wd->Prop} (h:aY P f args w R) (hr: ∀v w',R v w'->R' v w'):aY P f args w R':=
 Calls.mono h λe w' he=>by cases e<;>first | exact hr _ _ he | exact he

def Goes:List Deferred->Wd->(Wd->Prop)->Prop
 | [],w,R=>R w
 | d::ds,w,R=>∃D,d.target=.collected D/\w.heap[D]? =some (.deferred (some []))/\Goes ds {w with heap:=w.heap.setIfInBounds D (.deferred none)} R
def Qfn (l:List ResultVar) (R:Value->Wd->Prop):Post:=λe σ w=>match e with
 | .normal | .ret=>∃vs,lS σ l=some vs/\Goes σ.ds w (R (eP vs))
 | _=>False
theorem lT {l:List ResultVar} {R:Value->Wd->Prop} {σ:St} {w:Wd} {vs:LV} (h:lS σ l=some vs:=by simp only[lS,zda,upd_same,upd_ne,ne_eq,Nat.reduceEqDiff,not_false_eq_true];rfl) (hR:R (eP vs) w) (hd:σ.ds=[]:=by exact rfl):Qfn l R .ret σ w:=⟨vs,h,by rw[hd];exact hR⟩
theorem V4 {l:List ResultVar} {R:Value->Wd->Prop} {σ:St} {w:Wd} {vs:LV} (h:lS σ l=some vs:=by simp only[lS,zda,upd_same,upd_ne,ne_eq,Nat.reduceEqDiff,not_false_eq_true];rfl) (hR:R (eP vs) w) (hd:σ.ds=[]:=by exact rfl):Qfn l R .normal σ w:=⟨vs,h,by rw[hd];exact hR⟩
theorem sI {P:Program} {fn:Func} {tmps:Array Value} {R:Ending->Wd->Prop} {v:Value} (hr: ∀w,(results fn tmps).run P w=.ok v w): ∀(ds:List Deferred) (w:Wd),Goes ds w (λw'=>R (.returned v) w')->LeavesInM (fen none) 0 P fn tmps R ds .returning w
 | [],w,h=>⟨v,hr w,h⟩
 | d::ds,w,⟨D,ht,hh,hg⟩=>⟨(λe=>by cases e),.inl ⟨D,_,ht,run_takeDeferred hh,sI hr ds _ hg⟩⟩

def y5:Nat->LV->St
 | _,[]=>und
 | k,v::l=>upd (y5 (k+1) l) k v
theorem Du: ∀(l:LV) (k:Nat),(y5 k l).ds=[]
 | [],_=>rfl
 | _::l,k=>Du l (k+1)
theorem vF: ∀(l:LV) (k i:Nat),y5 k l i=if k<=i then l.toArray.getD (i-k) undef else undef
 | [],k,i=>by simp[y5,und]
 | v::l,k,i=>by
  have ih:=vF l (k+1) i;show upd (y5 (k+1) l) k v i=_
  by_cases h:i=k
  .subst h;simp[upd_same]
  rw[upd_ne _ _ _ _ h,ih]
  by_cases hk:k<=i
  .rw[zac hk,zac oM]
   have :i-k=(i-(k+1))+1:=by omega
   rw[this];simp[zbl]
  rw[zab hk,zab oM]
theorem oD {P:Program} {f:FuncId} {fn:Func} {c:Code} {args:LV} {w:Wd} {R:Value->Wd->Prop} {n:Nat} {l:List ResultVar}
    (hf:P.funcs[f]? =some fn) (hb:fn.body=some c) (hn:fn.ntmps=n) (hl:fn.results=l.toArray) (Cz:Nat.ble args.length n=true)
    (h:FW P none n c (Qfn l R) (y5 0 args) w):aY P f args w R:=by
  have q9:args.length<=n:=zaw Cz;refine(callsIn_wide (n:=0)).1 (callsIn_of_wp_marks (F:=fen none) hf hb trivial (Go.wpIn_mono (h _ ⟨?_,(Du args 0).symm,λi=>?_⟩) ?_))
  . simp[hn];omega
  . rw[vF]
    simp only[zaq,if_true,zfg];simp only[zbl,zdy];rw[zfh]
    split
    . simp
    rename_i hge;simp at hge;rw[zcn oM];rw[zdz]
    split<;>rfl
  rintro e a' w' ⟨s,hs,hq⟩;cases e with
  | normal=>
    obtain⟨vs,h1,h2⟩:=hq;show LeavesInM _ _ _ _ _ _ _ _ _
    rw[hs.defers];exact sI (λw=>oU hs.get hl h1) _ _ h2
  | ret=>
    obtain⟨vs,h1,h2⟩:=hq;show LeavesInM _ _ _ _ _ _ _ _ _
    rw[hs.defers];exact sI (λw=>oU hs.get hl h1) _ _ h2
  | _=>exact hq.elim
section
variable {P:Program} {f:FuncId} {fn:Func} {c:Code} {w:Wd} {R:Value->Wd->Prop} {n:Nat} {l:List ResultVar} (hf:P.funcs[f]? =some fn) (hb:fn.body=some c) (hn:fn.ntmps=n) (hl:fn.results=l.toArray)
include hf hb hn hl
theorem YL (h:FW P none n c (Qfn l R) und w):aY P f [] w R:=oD hf hb hn hl rfl h
theorem dI {a0:Value} (hk:Nat.ble 1 n=true) (h:FW P none n c (Qfn l R) (upd und 0 a0) w):aY P f [a0] w R:=oD hf hb hn hl hk h
theorem dF {a0 a1:Value} (hk:Nat.ble 2 n=true) (h:FW P none n c (Qfn l R) (upd (upd und 1 a1) 0 a0) w):aY P f [a0,a1] w R:=oD hf hb hn hl hk h
theorem y7 {a0 a1 a2:Value} (hk:Nat.ble 3 n=true) (h:FW P none n c (Qfn l R) (upd (upd (upd und 2 a2) 1 a1) 0 a0) w):aY P f [a0,a1,a2] w R:=oD hf hb hn hl hk h
theorem y8 {a0 a1 a2 a3:Value} (hk:Nat.ble 4 n=true) (h:FW P none n c (Qfn l R) (upd (upd (upd (upd und 3 a3) 2 a2) 1 a1) 0 a0) w):aY P f [a0,a1,a2,a3] w R:=oD hf hb hn hl hk h
theorem Ni {a0 a1 a2 a3 a4:Value} (hk:Nat.ble 5 n=true) (h:FW P none n c (Qfn l R) (upd (upd (upd (upd (upd und 4 a4) 3 a3) 2 a2) 1 a1) 0 a0) w):aY P f [a0,a1,a2,a3,a4] w R:=oD hf hb hn hl hk h
theorem akK {a0 a1 a2 a3 a4 a5:Value} (hk:Nat.ble 6 n=true) (h:FW P none n c (Qfn l R) (upd (upd (upd (upd (upd (upd und 5 a5) 4 a4) 3 a3) 2 a2) 1 a1) 0 a0) w):aY P f [a0,a1,a2,a3,a4,a5] w R:=oD hf hb hn hl hk h
end
structure Kept (S:NP) (w w':Wd):Prop where
 os:w'.os=w.os
 tape:w'.tape=w.tape
 output:w'.output=w.output
 size:w.heap.size<=w'.heap.size
 block: ∀k,k<w.heap.size->¬S k->w'.heap[k]? =w.heap[k]?
def noB:NP:=λ_=>False

section
variable {S T:NP} {a b c w w':Wd}
theorem Kept.refl (S:NP) (w:Wd):Kept S w w:=⟨rfl,rfl,rfl,zbk _,λ_ _ _=>rfl⟩
theorem Kept.trans (h:Kept S a b) (k:Kept T b c) (hT: ∀i,T i->S i\/a.heap.size<=i):Kept S a c:=
 ⟨k.os.trans h.os,k.tape.trans h.tape,k.output.trans h.output,zcl h.size k.size,λi hi hS=>by
  rw[k.block i (Nat.lt_of_lt_of_le hi h.size) (λht=>by rcases hT i ht with h1 | h1;exact hS h1;omega),h.block i hi hS]⟩
theorem Kept.mono (h:Kept S w w') (hS: ∀i,S i->T i):Kept T w w':=⟨h.os,h.tape,h.output,h.size,λi hi hT=>h.block i hi λhs=>hT (hS i hs)⟩
theorem Kept.JY (h:Kept S a b) (k:Kept noB b c):Kept S a c:=h.trans k λ_ hf=>hf.elim
theorem Kept.below (h:Kept noB w w'):Below w.heap.size w w':=⟨h.os,h.tape,h.output,h.size,λk hk=>h.block k hk id⟩
theorem Kept.of_below (h:Below w.heap.size w w'):Kept noB w w':=⟨h.os,h.tape,h.output,h.size,λk hk _=>h.block k hk⟩
theorem Kept.akL (h:Kept S a w) (n:Nat):Kept S a {w with drawn:=n}:=⟨h.os,h.tape,h.output,h.size,h.block⟩
theorem Kept.alloc (w:Wd) (o:Obj):Kept noB w (w.alloc o):=Kept.of_below ((Below.refl _ _).alloc (zbk _) o)
theorem Kept.drew (w:Wd):Kept noB w w.drew:=⟨rfl,rfl,rfl,zbk _,λ_ _ _=>rfl⟩
theorem Kept.get (h:Kept S w w') {k:Nat} {o:Obj} (hk:w.heap[k]? =some o) (hS: ¬S k):w'.heap[k]? =some o:=by
 have bH:k<w.heap.size:=by
  rcases zdr k w.heap.size with h1 | h1
  .exact h1
  rw[zdd h1]at hk;cases hk
 rw[h.block k bH hS,hk]
end

structure HP where
 ok:(NP)->Wd->Prop
 loc: ∀{F:NP} {w w':Wd},w.heap.size<=w'.heap.size->(∀b,F b->w'.heap[b]? =w.heap[b]?)->ok F w->ok F w'
 low: ∀{F:NP} {w:Wd},ok F w->∀b,F b->b<w.heap.size
theorem jB {w:Wd} {k:Nat} {o:Obj} (hk:w.heap[k]? =some o):k<w.heap.size:=by
 rcases zdr k w.heap.size with h1 | h1
 .exact h1
 rw[zdd h1]at hk;cases hk
def jo (φ:Prop):HP where
 ok F _:=φ/\∀b,¬F b
 loc _ _ h:=h
 low h b hb:=(h.2 b hb).elim
def emp:HP:=jo True
def obj (b:Nat) (o:Obj):HP where
 ok F w:=(∀x,F x↔x=b)/\w.heap[b]? =some o
 loc _ h eH:=⟨eH.1,by rw[h b ((eH.1 b).2 rfl)];exact eH.2⟩
 low h x hx:=by have:=(h.1 x).1 hx;subst this;exact jB h.2
def blk (b:Nat) (cs:LV) (E:Td):HP:=obj b (.cells cs.toArray E (0,0))
def star (p q:HP):HP where
 ok F w:=∃F1 F2,(∀b,F b↔F1 b\/F2 b)/\(∀b,F1 b->¬F2 b)/\p.ok F1 w/\q.ok F2 w
 loc hs h eH:=by
  obtain⟨F1,F2,hF,hd,h1,h2⟩:=eH;exact⟨F1,F2,hF,hd,p.loc hs (λb hb=>h b ((hF b).2 (.inl hb))) h1,q.loc hs (λb hb=>h b ((hF b).2 (.inr hb))) h2⟩
 low h b hb:=by
  obtain⟨F1,F2,hF,hd,h1,h2⟩:=h
  rcases (hF b).1 hb with h | h
  .exact p.low h1 b h
  exact q.low h2 b h
def exH {α:Type} (p:α->HP):HP where
 ok F w:=∃x,(p x).ok F w
 loc hs h eH:=by obtain⟨x,hx⟩:=eH;exact⟨x,(p x).loc hs h hx⟩
 low h b hb:=by obtain⟨x,hx⟩:=h;exact(p x).low hx b hb
def iT:List HP->HP
 | []=>emp
 | p::l=>star p (iT l)

def Sep (w0:Wd) (S:NP) (rs:List HP) (w:Wd):Prop:=
 Kept S w0 w/\∃F,(iT rs).ok F w/\∀b,F b->S b\/w0.heap.size<=b

def At (rs:List HP) (p:HP) (put:HP->List HP):Prop:=∃l1 l2,rs=l1++p::l2/\∀q,put q=l1++q::l2
section
variable {a b c d e f g h i j k m p:HP} {l:List HP}
theorem At0:At (p::l) p (λq=>q::l):=⟨[],l,rfl,λ_=>rfl⟩
theorem At1:At (a::p::l) p (λq=>a::q::l):=⟨[a],l,rfl,λ_=>rfl⟩
theorem At2:At (a::b::p::l) p (λq=>a::b::q::l):=⟨[a,b],l,rfl,λ_=>rfl⟩
theorem At3:At (a::b::c::p::l) p (λq=>a::b::c::q::l):=⟨[a,b,c],l,rfl,λ_=>rfl⟩
theorem At4:At (a::b::c::d::p::l) p (λq=>a::b::c::d::q::l):=⟨[a,b,c,d],l,rfl,λ_=>rfl⟩
theorem At5:At (a::b::c::d::e::p::l) p (λq=>a::b::c::d::e::q::l):=⟨[a,b,c,d,e],l,rfl,λ_=>rfl⟩
theorem At6:At (a::b::c::d::e::f::p::l) p (λq=>a::b::c::d::e::f::q::l):=⟨[a,b,c,d,e,f],l,rfl,λ_=>rfl⟩
theorem At7:At (a::b::c::d::e::f::g::p::l) p (λq=>a::b::c::d::e::f::g::q::l):=⟨[a,b,c,d,e,f,g],l,rfl,λ_=>rfl⟩
theorem At8:At (a::b::c::d::e::f::g::h::p::l) p (λq=>a::b::c::d::e::f::g::h::q::l):=⟨[a,b,c,d,e,f,g,h],l,rfl,λ_=>rfl⟩
theorem At9:At (a::b::c::d::e::f::g::h::i::p::l) p (λq=>a::b::c::d::e::f::g::h::i::q::l):=⟨[a,b,c,d,e,f,g,h,i],l,rfl,λ_=>rfl⟩
theorem aT {p:Prop} (h:p:=by first | exact At0 | exact At1 | exact At2 | exact At3 | exact At4 | exact At5 | exact At6 | exact At7 | exact At8 | exact At9):p:=h
end

theorem V5 {F:NP} {w:Wd} (h: ∀b,¬F b):emp.ok F w:=⟨trivial,h⟩
theorem y9 {l1 l2:List HP} {p:HP}: ∀{F:NP} {w:Wd},(iT (l1++p::l2)).ok F w->
    ∃F1 F2,(∀b,F b↔F1 b\/F2 b)/\(∀b,F1 b->¬F2 b)/\p.ok F1 w/\(iT (l1++l2)).ok F2 w:=by
  induction l1 with
  | nil=>intro F w h;exact h
  | cons q l ih=>
    rintro F w ⟨G1,G2,hF,hd,h1,h2⟩;obtain⟨F1,F2,hG,F7,hp,hr⟩:=ih h2;refine⟨F1,λb=>G1 b\/F2 b,λb=>?_,λb hb=>?_,hp,G1,F2,λb=>Iff.rfl,λb hb hb2=>hd b hb ((hG b).2 (.inr hb2)),h1,hr⟩
    . rw[hF,hG];constructor
      . rintro(h | h | h)
        . exact .inr (.inl h)
        . exact .inl h
        exact .inr (.inr h)
      rintro(h | h | h)
      . exact .inr (.inl h)
      . exact .inl h
      exact .inr (.inr h)
    rintro(h | h)
    . exact hd b h ((hG b).2 (.inl hb))
    exact F7 b hb h
theorem CF {l1 l2:List HP} {p:HP}: ∀{F F1 F2:NP} {w:Wd},(∀b,F b↔F1 b\/F2 b)->(∀b,F1 b->¬F2 b)->p.ok F1 w->(iT (l1++l2)).ok F2 w->(iT (l1++p::l2)).ok F w:=by
 induction l1 with
 | nil=>intro F F1 F2 w hF hd hp hr;exact⟨F1,F2,hF,hd,hp,hr⟩
 | cons q l ih=>
  rintro F F1 F2 w hF hd hp ⟨G1,G2,hG,F7,h1,h2⟩;refine⟨G1,λb=>F1 b\/G2 b,λb=>?_,λb hb=>?_,h1,ih (F1:=F1) (F2:=G2) (λb=>Iff.rfl) (λb hb hb2=>hd b hb ((hG b).2 (.inr hb2))) hp h2⟩
  .rw[hF,hG];constructor
   .rintro(h | h | h)
    .exact .inr (.inl h)
    .exact .inl h
    exact .inr (.inr h)
   rintro(h | h | h)
   .exact .inr (.inl h)
   .exact .inl h
   exact .inr (.inr h)
  rintro(h | h)
  .exact hd b h ((hG b).2 (.inl hb))
  exact F7 b hb h

section
variable {w0 w w':Wd} {S:NP} {rs:List HP}
theorem Sep.kept (h:Sep w0 S rs w):Kept S w0 w:=h.1
theorem Sep.size (h:Sep w0 S rs w):w0.heap.size<=w.heap.size:=h.1.size
theorem Sep.keep (h:Sep w0 S rs w) (hk:Kept noB w w'):Sep w0 S rs w':=by
 obtain⟨h1,F,hF,hS⟩:=h;exact⟨h1.JY hk,F,(iT rs).loc hk.size (λb hb=>hk.block b ((iT rs).low hF b hb) id) hF,hS⟩
theorem Sep.focus {p:HP} {put:HP->List HP} (h:Sep w0 S rs w) (hat:At rs p put):
    ∃F,p.ok F w/\(∀b,F b->S b\/w0.heap.size<=b)/\
      ∀w' F' q,Kept F w w'->q.ok F' w'->(∀b,F' b->F b\/w.heap.size<=b)->Sep w0 S (put q) w':=by
  obtain⟨l1,l2,rfl,jO⟩:=hat;obtain⟨h1,F,hF,hS⟩:=h;obtain⟨F1,F2,Dm,hd,hp,hr⟩:=y9 hF;refine⟨F1,hp,λb hb=>hS b ((Dm b).2 (.inl hb)),λw' F' q hk hq gT=>?_⟩;rw[jO];have Jy:=(iT (l1++l2)).low hr;refine⟨h1.trans hk λb hb=>hS b ((Dm b).2 (.inl hb)),λb=>F' b\/F2 b,?_,?_⟩
  . refine CF (F1:=F') (F2:=F2) (λb=>Iff.rfl) (λb hb hb2=>?_) hq ((iT (l1++l2)).loc hk.size (λb hb=>hk.block b (Jy b hb) (λh1=>hd b h1 hb)) hr)
    rcases gT b hb with h | h
    . exact hd b h hb2
    have:=Jy b hb2;omega
  rintro b (hb | hb)
  . rcases gT b hb with h | h
    . exact hS b ((Dm b).2 (.inl h))
    exact .inr (zcl h1.size h)
  exact hS b ((Dm b).2 (.inr hb))
theorem Sep.new {p:HP} {F':NP} (h:Sep w0 S rs w) (hk:Kept noB w w') (hp:p.ok F' w') (hF': ∀b,F' b->w.heap.size<=b):Sep w0 S (p::rs) w':=by
 have h0:=h;obtain⟨h1,F,hF,hS⟩:=h;have Jy:=(iT rs).low hF;refine⟨h1.JY hk,λb=>F' b\/F b,⟨F',F,λb=>Iff.rfl,λb hb hb2=>?_,hp,(iT rs).loc hk.size (λb hb=>hk.block b (Jy b hb) id) hF⟩,?_⟩
 .have:=Jy b hb2;have:=hF' b hb;omega
 rintro b (hb | hb)
 .exact .inr (zcl h0.size (hF' b hb))
 exact hS b hb
theorem Sep.alloc (h:Sep w0 S rs w) (o:Obj):Sep w0 S (obj w.heap.size o::rs) (w.alloc o):=
 h.new (F':=λb=>b=w.heap.size) (Kept.alloc w o) ⟨λ_=>Iff.rfl,heap_alloc_new w o⟩ λb hb=>by rw[hb];exact zbk _
theorem Sep.obj {b:Nat} {o:Obj} {put:HP->List HP} (h:Sep w0 S rs w) (hat:At rs (obj b o) put):w.heap[b]? =some o:=by
 obtain⟨F,hp,_,_⟩:=h.focus hat;exact hp.2
theorem Sep.setObj {b:Nat} {o o':Obj} {put:HP->List HP} (h:Sep w0 S rs w) (hat:At rs (Mw.obj b o) put) (hk:Kept (λx=>x=b) w w') (ho:w'.heap[b]? =some o'):Sep w0 S (put (Mw.obj b o')) w':=by
 obtain⟨F,hp,hS,jO⟩:=h.focus hat;exact jO w' F (Mw.obj b o') (hk.mono λi hi=>(hp.1 i).2 hi) ⟨hp.1,ho⟩ λb hb=>.inl hb
theorem Sep.dA {p:HP} (h:Sep w0 S (p::rs) w):Sep w0 S rs w:=by
 obtain⟨h1,F,⟨F1,F2,hF,hd,hp,hr⟩,hS⟩:=h;exact⟨h1,F2,hr,λb hb=>hS b ((hF b).2 (.inr hb))⟩
theorem Sep.start (rs:List HP) {F:NP} {w:Wd} (h:(iT rs).ok F w):Sep w F rs w:=⟨Kept.refl _ _,F,h,λ_ hb=>.inl hb⟩
theorem Sep.aJ (w:Wd):Sep w noB [] w:=⟨Kept.refl _ _,λ_=>False,V5 (λ_=>id),λ_ hb=>hb.elim⟩
theorem Sep.ex0 {α:Type} {p:α->HP} (h:Sep w0 S (exH p::rs) w): ∃x,Sep w0 S (p x::rs) w:=by
 obtain⟨h1,F,⟨F1,F2,hF,hd,⟨x,hp⟩,hr⟩,hS⟩:=h;exact⟨x,h1,F,⟨F1,F2,hF,hd,hp,hr⟩,hS⟩
theorem Sep.bR {p q:HP} (h:Sep w0 S (star p q::rs) w):Sep w0 S (p::q::rs) w:=by
 obtain⟨h1,F,⟨F1,F2,hF,hd,⟨G1,G2,hG,F7,hp,hq⟩,hr⟩,hS⟩:=h;refine⟨h1,F,⟨G1,λb=>G2 b\/F2 b,λb=>?_,λb hb=>?_,hp,G2,F2,λ_=>Iff.rfl,λb hb hb2=>hd b ((hG b).2 (.inr hb)) hb2,hq,hr⟩,hS⟩
 .rw[hF,hG,or_assoc]
 rintro(h | h)
 .exact F7 b hb h
 exact hd b ((hG b).2 (.inl hb)) h
theorem Sep.rO {φ:Prop} (h:Sep w0 S (jo φ::rs) w):φ/\Sep w0 S rs w:=by
 have h':=h.dA;obtain⟨h1,F,⟨F1,F2,hF,hd,hp,hr⟩,hS⟩:=h;exact⟨hp.1,h'⟩
theorem Sep.bD {p q:HP} (h:Sep w0 S (p::q::rs) w):Sep w0 S (star p q::rs) w:=by
 obtain⟨h1,F,⟨F1,F2,hF,hd,hp,G1,G2,hG,F7,hq,hr⟩,hS⟩:=h;refine⟨h1,F,⟨λb=>F1 b\/G1 b,G2,λb=>?_,λb hb=>?_,⟨F1,G1,λ_=>Iff.rfl,λb hb hb2=>hd b hb ((hG b).2 (.inl hb2)),hp,hq⟩,hr⟩,hS⟩
 .rw[hF,hG,or_assoc]
 rcases hb with hb | hb
 .exact λh=>hd b hb ((hG b).2 (.inr h))
 exact F7 b hb
theorem Sep.uq {α:Type} {p:α->HP} (x:α) (h:Sep w0 S (p x::rs) w):Sep w0 S (exH p::rs) w:=by
 obtain⟨h1,F,⟨F1,F2,hF,hd,hp,hr⟩,hS⟩:=h;exact⟨h1,F,⟨F1,F2,hF,hd,⟨x,hp⟩,hr⟩,hS⟩
theorem Sep.jS {φ:Prop} (hφ:φ) (h:Sep w0 S rs w):Sep w0 S (jo φ::rs) w:=by
 obtain⟨h1,F,hr,hS⟩:=h;exact⟨h1,F,⟨λ_=>False,F,λb=>sM,λ_ hb=>hb.elim,⟨hφ,λ_ hb=>hb⟩,hr⟩,hS⟩
theorem Sep.imp {p q:HP} {put:HP->List HP} (h:Sep w0 S rs w) (hat:At rs p put) (hpq: ∀F,p.ok F w->q.ok F w):Sep w0 S (put q) w:=by
 obtain⟨F,hp,hS,jO⟩:=h.focus hat;exact jO w F q (Kept.refl _ _) (hpq F hp) λb hb=>.inl hb
theorem Sep.front {p:HP} {l1 l2:List HP} (h:Sep w0 S (l1++p::l2) w):Sep w0 S (p::(l1++l2)) w:=by
 obtain⟨h1,F,hF,hS⟩:=h;obtain⟨F1,F2,Dm,hd,hp,hr⟩:=y9 hF;exact⟨h1,F,⟨F1,F2,Dm,hd,hp,hr⟩,hS⟩
theorem Sep.aL {a p:HP} {l:List HP} (h:Sep w0 S (a::p::l) w):Sep w0 S (p::a::l) w:=Sep.front (l1:=[a]) h
theorem Sep.aU {a b p:HP} {l:List HP} (h:Sep w0 S (a::b::p::l) w):Sep w0 S (p::a::b::l) w:=Sep.front (l1:=[a,b]) h
theorem Sep.bE {a b c p:HP} {l:List HP} (h:Sep w0 S (a::b::c::p::l) w):Sep w0 S (p::a::b::c::l) w:=Sep.front (l1:=[a,b,c]) h
theorem Sep.fC {a b c d p:HP} {l:List HP} (h:Sep w0 S (a::b::c::d::p::l) w):Sep w0 S (p::a::b::c::d::l) w:=Sep.front (l1:=[a,b,c,d]) h
theorem Sep.jK {a b c d e p:HP} {l:List HP} (h:Sep w0 S (a::b::c::d::e::p::l) w):Sep w0 S (p::a::b::c::d::e::l) w:=Sep.front (l1:=[a,b,c,d,e]) h
theorem Sep.jL {a b c d e f p:HP} {l:List HP} (h:Sep w0 S (a::b::c::d::e::f::p::l) w):Sep w0 S (p::a::b::c::d::e::f::l) w:=Sep.front (l1:=[a,b,c,d,e,f]) h
end

theorem V6 {p q t:HP} {F:NP} {w:Wd}:(star (star p q) t).ok F w↔(star p (star q t)).ok F w:=by
 constructor
 .rintro⟨F1,F2,hF,hd,⟨G1,G2,hG,F7,hp,hq⟩,hr⟩
  refine⟨G1,λb=>G2 b\/F2 b,λb=>?_,λb hb=>?_,hp,G2,F2,λ_=>Iff.rfl,λb hb hb2=>hd b ((hG b).2 (.inr hb)) hb2,hq,hr⟩
  .rw[hF,hG,or_assoc]
  rintro(h | h)
  .exact F7 b hb h
  exact hd b ((hG b).2 (.inl hb)) h
 rintro⟨F1,F2,hF,hd,hp,G1,G2,hG,F7,hq,hr⟩;refine⟨λb=>F1 b\/G1 b,G2,λb=>?_,λb hb=>?_,⟨F1,G1,λ_=>Iff.rfl,λb hb hb2=>hd b hb ((hG b).2 (.inl hb2)),hp,hq⟩,hr⟩
 .rw[hF,hG,or_assoc]
 rcases hb with hb | hb
 .exact λh=>hd b hb ((hG b).2 (.inr h))
 exact F7 b hb
theorem xK {l rs:List HP}: ∀{F:NP} {w:Wd},(star (iT l) (iT rs)).ok F w↔(iT (l++rs)).ok F w:=by
 induction l with
 | nil=>
  intro F w;constructor
  .rintro⟨F1,F2,hF,hd,⟨_,h1⟩,h2⟩
   have :F=F2:=funext λb=>propext ((hF b).trans ⟨λh=>h.elim (λh=>(h1 b h).elim) id,.inr⟩);rw[this];exact h2
  intro h;exact⟨λ_=>False,F,λb=>sM,λ_ h=>h.elim,⟨trivial,λ_ h=>h⟩,h⟩
 | cons p l ih=>
  intro F w;show(star (star p (iT l)) (iT rs)).ok F w↔(star p (iT (l++rs))).ok F w
  rw[V6];constructor
  .rintro⟨F1,F2,hF,hd,hp,hr⟩;exact⟨F1,F2,hF,hd,hp,ih.1 hr⟩
  rintro⟨F1,F2,hF,hd,hp,hr⟩;exact⟨F1,F2,hF,hd,hp,ih.2 hr⟩
theorem Sep.parts {w0 w:Wd} {S:NP} {l rs:List HP} (h:Sep w0 S (iT l::rs) w):Sep w0 S (l++rs) w:=by
 obtain⟨h1,F,hF,hS⟩:=h;exact⟨h1,F,xK.1 hF,hS⟩
theorem Sep.bundle {w0 w:Wd} {S:NP} {l rs:List HP} (h:Sep w0 S (l++rs) w):Sep w0 S (iT l::rs) w:=by
 obtain⟨h1,F,hF,hS⟩:=h;exact⟨h1,F,xK.2 hF,hS⟩
/-A contract that looks alone. -/
abbrev Rk (P:Program) (f:FuncId) (args:LV) (w:Wd) (x:Value):Prop:=aY P f args w λv w'=>v=x/\Kept noB w w'
def Gives (P:Program) (ρ:Od->Value) (op:Op) (ty:Td) (w:Wd) (v:Value) (w':Wd):Prop:=
 ∀dst pos after guard,(execOp ρ ⟨dst,op,ty,pos,after,guard⟩).run P w=.ok (.value v) w'
def MC (P:Program) (ρ:Od->Value) (op:Op) (ty:Td) (w w':Wd):Prop:=
 ∀dst pos after guard,(execOp ρ ⟨dst,op,ty,pos,after,guard⟩).run P w=.ok .skip w'

section rules
variable {P:Program} {r:Option Nat} {n:Nat} {ops:AO} {Q:Post} {rest:LO} {σ:St} {w w':Wd} {op:Op} {ty:Td} {pos:String} {after:Array Edge}
theorem uT (h:Q .normal σ w):FL P r n ops Q [] σ w:=λ_ ha=>wpListIn_nil ⟨σ,ha,h⟩
theorem EH {ρ:Od->Value} {o:Oper} {v:Value} (h:(execOp ρ o).run P w=.ok (.value v) w'):(o.semAt r ρ).run P w=.ok (.value v) w':=by
 by_cases hd: ∃c,o.op=.defer c
 .obtain⟨c,hd⟩:=hd
  exfalso;unfold execOp at h;rw[hd]at h;simp only[zbh]at h;cases hr:(resolve ρ c o.type).run P w<;>rw[hr]at h<;>simp[Result.andThen]at h
 rw[Oper.semAt_eq r ρ o λc hc=>hd ⟨c,hc⟩];exact h
theorem V7 {ρ:Od->Value} {o:Oper} (h:(execOp ρ o).run P w=.ok .skip w'):(o.semAt r ρ).run P w=.ok .skip w':=by
 by_cases hd: ∃c,o.op=.defer c
 .obtain⟨c,hd⟩:=hd
  exfalso;unfold execOp at h;rw[hd]at h;simp only[zbh]at h;cases hr:(resolve ρ c o.type).run P w<;>rw[hr]at h<;>simp[Result.andThen]at h
 rw[Oper.semAt_eq r ρ o λc hc=>hd ⟨c,hc⟩];exact h
theorem dG {d:Nat} {v:Value} (hg:Gives P (evF σ) op ty w v w') (hd:Nat.blt d n=true) (h:FL P r n ops Q rest (upd σ d v) w'):
    FL P r n ops Q (⟨some d,op,ty,pos,after,none⟩::rest) σ w:=λa ha=>
  wpListIn_plain rfl λK hK=>by
    refine⟨λ_ _=>trivial,?_⟩;rw[ha.eval,EH (hg _ _ _ _)];exact hK _ _ (h _ (ha.put (zaw hd) v))
theorem EI {v:Option Nat} (hg:MC P (evF σ) op ty w w') (hd:v=none) (h:FL P r n ops Q rest σ w'):
    FL P r n ops Q (⟨v,op,ty,pos,after,none⟩::rest) σ w:=λa ha=>
  wpListIn_plain rfl λK hK=>by
    refine⟨λ_ _=>trivial,?_⟩;rw[ha.eval,V7 (hg _ _ _ _)];subst hd;exact hK _ _ (h _ ha)
theorem ah4 {dst:Option Nat} {j:Nat} {b:Bool} {t:Nat} (hj:(ops[j]?).bind (λo:Oper=>o.dst)=some t) (hb:σ t=.bool b)
    (h:FL P r n ops Q (⟨dst,op,ty,pos,after,none⟩::rest) σ w):
    FL P r n ops Q (⟨dst,op,ty,pos,after,some (j,b)⟩::rest) σ w:=λa ha=>by
  have h1:=h a ha
  have hw:Region.wanted ⟨dst,op,ty,pos,after,some (j,b)⟩ (yielded ops a.tmps)=true:=by
    simp[Region.wanted,ha.JX ops hj hb]
  unfold wpListIn at h1 ⊢;rw[zac hw];rw[zac (by simp[Region.wanted])]at h1;exact h1
theorem aiQ {dst:Option Nat} {j:Nat} {b:Bool} {t:Nat} (hj:(ops[j]?).bind (λo:Oper=>o.dst)=some t) (hb:σ t=.bool (!b)) (hd:Nh n dst=true)
    (h:FL P r n ops Q rest (qC σ dst undef) w):
    FL P r n ops Q (⟨dst,op,ty,pos,after,some (j,b)⟩::rest) σ w:=λa ha=>by
  have h1:=h _ (ha.MB hd undef)
  have hw:Region.wanted ⟨dst,op,ty,pos,after,some (j,b)⟩ (yielded ops a.tmps)=false:=by
    simp[Region.wanted,ha.JX ops hj hb]
  unfold wpListIn;rw[zab (by simp[hw])];exact⟨λ_ _=>trivial,h1⟩
theorem gu {t:Nat} {b:Bool} {l:LO} (hb:σ t=.bool b) (h1:b=true->FL P r n ops Q l (upd σ t (.bool true)) w) (h0:b=false->FL P r n ops Q l (upd σ t (.bool false)) w):FL P r n ops Q l σ w:=by
 cases b
 .have:=h0 rfl;rw[<-hb,sH]at this;exact this
 have:=h1 rfl;rw[<-hb,sH]at this;exact this
class qb (P:Program) (f:FuncId):Prop where
 run: ∀args w,(callFunc f args).run P w=.ok (.enter f args) w:=by intro _ _;kernel_rfl
theorem aK {d:Nat} {f:FuncId} {xs:List Od} {ats:Array Td} {vals:LV} {R:Value->Wd->Prop} [he:qb P f] (hc:aY P f vals w R) (hv:xs.map (evF σ)=vals) (hd:Nat.blt d n=true)
    (h: ∀v w',R v w'->FL P r n ops Q rest (upd σ d v) w'):
    FL P r n ops Q (⟨some d,.call {callee:=.value (.func f),args:=xs.toArray,argTypes:=ats},ty,pos,after,none⟩::rest) σ w:=λa ha=>
  wpListIn_plain rfl λK hK=>by
    refine⟨λ_ _=>trivial,?_⟩;rw[Oper.semAt_eq _ _ _ (λ_ h=>by cases h),execOp_call_go,he.run];have e:(#[]++xs.toArray.map a.eval++ #[]:Array Value)=vals.toArray:=by rw[ha.eval];simp[hv]
    rw[e,Oper.uponIn_enter];refine⟨(λh=>by cases h),ql r (Calls.mono hc λe w'' hr=>?_)⟩;cases e with
    | returned v=>exact hK _ _ (h v w'' hr _ (ha.put (zaw hd) v))
    | _=>exact hr.elim
theorem acP {c:Od} {x y:Code} {p:Prop} [Decidable p] (hc:evF σ c=.bool (decide p)) (ht:p->FW P r n x Q σ w) (hf: ¬p->FW P r n y Q σ w):FW P r n (.cond c x y) Q σ w:=
 JD hc (λh=>ht (zba h)) (λh=>hf (of_decide_eq_false h))
end rules

section gives
variable {P:Program} {ρ:Od->Value} {ty:Td} {w w':Wd} {x y z:Od}
theorem Gives.move {v:Value} (h:ρ x=v):Gives P ρ (.move x) ty w v w:=λ_ _ _ _=>by subst h;rfl
theorem Gives.assign {v:Value} (h:ρ x=v):Gives P ρ (.assign x) ty w v w:=λ_ _ _ _=>by subst h;rfl
theorem Gives.pick {b:Bool} {u v:Value} (hc:ρ z=.bool b) (hx:ρ x=u) (hy:ρ y=v):Gives P ρ (.pick z x y) ty w (if b then u else v) w:=λ_ _ _ _=>by
 simp only[execOp,hc,hx,hy];cases b<;>rfl
theorem Gives.akM {v:Value} (hc:ρ z=.bool true) (hx:ρ x=v):Gives P ρ (.pick z x y) ty w v w:=λ_ _ _ _=>by subst hx;simp only[execOp,hc];rfl
theorem Gives.ah5 {v:Value} (hc:ρ z=.bool false) (hy:ρ y=v):Gives P ρ (.pick z x y) ty w v w:=λ_ _ _ _=>by subst hy;simp only[execOp,hc];rfl
theorem Gives.bin {op:BinOp} {T U:Td} {a b v:Value} (hx:ρ x=a) (hy:ρ y=b) (hg: ∀x y,(eqGuard op T x y a b).run P w=.ok () w) (hr:(binOp op T a b).run P w=.ok v w):Gives P ρ (.binOp op T x y U) ty w v w:=λ_ _ _ _=>by
 simp only[execOp,hx,hy,zbh,hg,hr,zai,zbm]
section ints
variable {T U:Td} {k:IntKind} {a b:Int}
theorem Gives.add (hx:ρ x=.int k a) (hy:ρ y=.int k b):Gives P ρ (.binOp .add T x y U) ty w (.int k (k.wrap (a+b))) w:=.bin hx hy (λ_ _=>rfl) (by rw[binOp_add];rfl)
theorem Gives.sub (hx:ρ x=.int k a) (hy:ρ y=.int k b):Gives P ρ (.binOp .sub T x y U) ty w (.int k (k.wrap (a-b))) w:=.bin hx hy (λ_ _=>rfl) (by rw[binOp_sub];rfl)
theorem Gives.mul (hx:ρ x=.int k a) (hy:ρ y=.int k b):Gives P ρ (.binOp .mul T x y U) ty w (.int k (k.wrap (a*b))) w:=.bin hx hy (λ_ _=>rfl) (by rw[binOp_mul];rfl)
theorem Gives.PO {c:Int} (hx:ρ x=.int .i64 a) (hy:ρ y=.int .i64 b) (he:a+b=c) (h: -9223372036854775808<=c/\c<=9223372036854775807):Gives P ρ (.binOp .add T x y U) ty w (.int .i64 c) w:=by
 have:=Gives.add (P:=P) (ty:=ty) (w:=w) (T:=T) (U:=U) hx hy;rw[he,IntWalk.i64_in _ h]at this;exact this
theorem Gives.aiR {c:Int} (hx:ρ x=.int .i64 a) (hy:ρ y=.int .i64 b) (he:a-b=c) (h: -9223372036854775808<=c/\c<=9223372036854775807):Gives P ρ (.binOp .sub T x y U) ty w (.int .i64 c) w:=by
 have:=Gives.sub (P:=P) (ty:=ty) (w:=w) (T:=T) (U:=U) hx hy;rw[he,IntWalk.i64_in _ h]at this;exact this
theorem Gives.aiS {c:Int} (hx:ρ x=.int .i64 a) (hy:ρ y=.int .i64 b) (he:a*b=c) (h: -9223372036854775808<=c/\c<=9223372036854775807):Gives P ρ (.binOp .mul T x y U) ty w (.int .i64 c) w:=by
 have:=Gives.mul (P:=P) (ty:=ty) (w:=w) (T:=T) (U:=U) hx hy;rw[he,IntWalk.i64_in _ h]at this;exact this
theorem Gives.quo (hx:ρ x=.int k a) (hy:ρ y=.int k b) (h0:b≠0):Gives P ρ (.binOp .quo T x y U) ty w (.int k (k.wrap (a.tdiv b))) w:=.bin hx hy (λ_ _=>rfl) (by rw[binOp_quo,Op.intDiv,zab h0];rfl)
theorem Gives.rem (hx:ρ x=.int k a) (hy:ρ y=.int k b) (h0:b≠0):Gives P ρ (.binOp .rem T x y U) ty w (.int k (a.tmod b)) w:=.bin hx hy (λ_ _=>rfl) (by rw[binOp_rem,Op.intDiv,zab h0];rfl)
theorem Gives.eql (hx:ρ x=.int k a) (hy:ρ y=.int k b):Gives P ρ (.binOp .eql T x y U) ty w (.bool (decide (a=b))) w:=.bin hx hy (λ_ _=>by rw[eqGuard_at_int];rfl) (by rw[binOp_eql];rfl)
theorem Gives.neq (hx:ρ x=.int k a) (hy:ρ y=.int k b):Gives P ρ (.binOp .neq T x y U) ty w (.bool (decide (a≠b))) w:=.bin hx hy (λ_ _=>by rw[eqGuard_at_int];rfl) (by rw[binOp_neq,show(a !=b)=decide (a≠b)from by rw[decide_not];rfl];rfl)
theorem Gives.lss (hx:ρ x=.int k a) (hy:ρ y=.int k b):Gives P ρ (.binOp .lss T x y U) ty w (.bool (decide (a<b))) w:=.bin hx hy (λ_ _=>rfl) (by rw[binOp_lss];rfl)
theorem Gives.leq (hx:ρ x=.int k a) (hy:ρ y=.int k b):Gives P ρ (.binOp .leq T x y U) ty w (.bool (decide (a<=b))) w:=.bin hx hy (λ_ _=>rfl) (by rw[binOp_leq];rfl)
theorem Gives.gtr (hx:ρ x=.int k a) (hy:ρ y=.int k b):Gives P ρ (.binOp .gtr T x y U) ty w (.bool (decide (b<a))) w:=.bin hx hy (λ_ _=>rfl) (by rw[binOp_gtr];rfl)
theorem Gives.geq (hx:ρ x=.int k a) (hy:ρ y=.int k b):Gives P ρ (.binOp .geq T x y U) ty w (.bool (decide (b<=a))) w:=.bin hx hy (λ_ _=>rfl) (by rw[binOp_geq];rfl)
theorem Gives.shl {yk:IntKind} (hx:ρ x=.int k a) (hy:ρ y=.int yk b) (h0:0<=b):Gives P ρ (.binOp .shl T x y U) ty w (.int k (k.wrap (a*2^(min b.toNat k.bits)))) w:=.bin hx hy (λ_ _=>rfl) (by rw[binOp_shl,Op.shift,zab oM];rfl)
theorem Gives.shr {yk:IntKind} (hx:ρ x=.int k a) (hy:ρ y=.int yk b) (h0:0<=b):Gives P ρ (.binOp .shr T x y U) ty w (.int k (a.fdiv (2^(min b.toNat k.bits)))) w:=.bin hx hy (λ_ _=>rfl) (by rw[binOp_shr,Op.shift,zab oM];rfl)
theorem Gives.and (hx:ρ x=.int k a) (hy:ρ y=.int k b):Gives P ρ (.binOp .and T x y U) ty w (.int k (bits .and k a b)) w:=.bin hx hy (λ_ _=>rfl) (by rw[binOp_and];rfl)
theorem Gives.or (hx:ρ x=.int k a) (hy:ρ y=.int k b):Gives P ρ (.binOp .or T x y U) ty w (.int k (bits .or k a b)) w:=.bin hx hy (λ_ _=>rfl) (by rw[binOp_or];rfl)
theorem Gives.xor (hx:ρ x=.int k a) (hy:ρ y=.int k b):Gives P ρ (.binOp .xor T x y U) ty w (.int k (bits .xor k a b)) w:=.bin hx hy (λ_ _=>rfl) (by rw[binOp_xor];rfl)
end ints
class V8 (P:Program) (t:Td):Prop where
 und:P.underlying t=some .bool:=by kernel_rfl
theorem Gives.amU {T U:Td} [h:V8 P T] {a b:Bool} (hx:ρ x=.bool a) (hy:ρ y=.bool b):Gives P ρ (.binOp .eql T x y U) ty w (.bool (a==b)) w:=.bin hx hy (λ_ _=>by rw[eqGuard_at_bool];rfl) (run_eql_bool _ _ _ _ h.und)
theorem Gives.amV {T U:Td} [h:V8 P T] {a b:Bool} (hx:ρ x=.bool a) (hy:ρ y=.bool b):Gives P ρ (.binOp .neq T x y U) ty w (.bool (!(a==b))) w:=.bin hx hy (λ_ _=>by rw[eqGuard_at_bool];rfl) (run_neq_bool _ _ _ _ h.und)
theorem Gives.amW {T U:Td} {a b:ByteArray} (hx:ρ x=.string a) (hy:ρ y=.string b):Gives P ρ (.binOp .eql T x y U) ty w (.bool (a.toList==b.toList)) w:=.bin hx hy (λ_ _=>by rw[eqGuard_at_string];rfl) rfl
theorem Gives.amX {T U:Td} {a b:ByteArray} (hx:ρ x=.string a) (hy:ρ y=.string b):Gives P ρ (.binOp .neq T x y U) ty w (.bool (!(a.toList==b.toList))) w:=.bin hx hy (λ_ _=>by rw[eqGuard_at_string];rfl) rfl
theorem Gives.not {b:Bool} {T:Td} (hx:ρ x=.bool b):Gives P ρ (.unOp .not T x) ty w (.bool (!b)) w:=λ_ _ _ _=>by simp only[execOp,hx];rfl
theorem Gives.notP {p:Prop} [Decidable p] {T:Td} (hx:ρ x=.bool (decide p)):Gives P ρ (.unOp .not T x) ty w (.bool (decide (¬p))) w:=by
 have:=Gives.not (P:=P) (ty:=ty) (w:=w) (T:=T) hx;rw[show(!decide p)=decide (¬p)from sM]at this;exact this
theorem Gives.neg {k:IntKind} {a:Int} {T:Td} (hx:ρ x=.int k a):Gives P ρ (.unOp .neg T x) ty w (.int k (k.wrap (0-a))) w:=λ_ _ _ _=>by simp only[execOp,hx];rfl
theorem Gives.nilCheck {a:Addr} (hx:ρ x=.pointer (some a)):Gives P ρ (.nilCheck x) ty w (.pointer (some a)) w:=λ_ _ _ _=>by simp only[execOp,hx];rfl
theorem Gives.akN {s t:Td} {k j:IntKind} {a:Int} (hs:(P.underlying s).isSome=true) (ht:P.underlying t=some (.int k)) (hx:ρ x=.int j a):Gives P ρ (.convert s t x) ty w (.int k (k.wrap a)) w:=λ_ _ _ _=>by
 obtain⟨d,hd⟩:=zes.1 hs;simp[execOp,hx,convert,run_underlying hd,run_underlying ht,Conv.intToInt]
class YM (P:Program) (t:Td):Prop where
 und: ∃e,P.underlying t=some (.pointer e)
theorem BF (d:Nat) {T e:Td} (he:P.underlying T=some (.pointer e)) (a:OA):(Op.equalIn (d+1) T (.pointer a) (.pointer none)).run P w=.ok a.isNone w:=by
 cases a<;>simp[Op.equalIn,run_underlying he]
theorem uw {T:Td} [h:YM P T] (a:OA):(Op.equal T (.pointer a) (.pointer none)).run P w=.ok a.isNone w:=by
 obtain⟨e,he⟩:=h.und;exact BF 9999 he a
theorem Gives.aiT {T U:Td} [YM P T] {a:OA} (hx:ρ x=.pointer a) (hy:ρ y=.pointer none):Gives P ρ (.binOp .eql T x y U) ty w (.bool a.isNone) w:=
 .bin hx hy (λ_ _=>by rw[eqGuard_at_pointer];rfl) (by simp[binOp,uw])
theorem Gives.aiU {T U:Td} [YM P T] {a:OA} (hx:ρ x=.pointer a) (hy:ρ y=.pointer none):Gives P ρ (.binOp .neq T x y U) ty w (.bool (!a.isNone)) w:=
 .bin hx hy (λ_ _=>by rw[eqGuard_at_pointer];rfl) (by simp[binOp,uw])
class Aq (P:Program) (s f:Nat) (k:outParam Nat):Prop where
 run: ∀a w,(Instr.fieldAt s (.pointer (some a)) f).run P w=.ok (.pointer (some (a.add k))) w:=by intro _ _;kernel_rfl
theorem Gives.uU {s f k b:Nat} [h:Aq P s f k] (hx:ρ x=.pointer (some ⟨b,0,none⟩)):Gives P ρ (.fieldAddr s x f) ty w (.pointer (some ⟨b,k,none⟩)) w:=λ_ _ _ _=>by
 simp only[execOp,hx,zbh,h.run,zai,zbm,Addr.add_lit,zdm]
theorem Gives.field {s f k b o:Nat} [h:Aq P s f k] (hx:ρ x=.pointer (some ⟨b,o,none⟩)):Gives P ρ (.fieldAddr s x f) ty w (.pointer (some ⟨b,o+k,none⟩)) w:=λ_ _ _ _=>by
 simp only[execOp,hx,zbh,h.run,zai,zbm,Addr.add_lit]
class OneCell (P:Program) (t:Td):Prop where
 agg: ∀w,(isAgg t).run P w=.ok false w:=by intro _;kernel_rfl
 size: ∀w,(sizeOf t).run P w=.ok 1 w:=by intro _;kernel_rfl
class Agg (P:Program) (t:Td) (k:outParam Nat):Prop where
 agg: ∀w,(isAgg t).run P w=.ok true w:=by intro _;kernel_rfl
 size: ∀w,(sizeOf t).run P w=.ok k w:=by intro _;kernel_rfl
class Zero (P:Program) (t:Td) (z:outParam Value):Prop where
 run: ∀w,(zeroValue t).run P w=.ok z w:=by intro _;kernel_rfl
class dh (P:Program) (t:Td) (e:outParam Td):Prop where
 und:P.underlying t=some (.slice e):=by kernel_rfl
class Ar (P:Program) (t:Td) (m:outParam Nat) (e:outParam Td):Prop where
 und:P.underlying t=some (.array m e):=by kernel_rfl
class IsMap (P:Program) (t:Td) (k e:outParam Td):Prop where
 und:P.underlying t=some (.map k e):=by kernel_rfl
class lZ (P:Program) (t:Td) (k:outParam IntKind):Prop where
 und:P.underlying t=some (.int k):=by kernel_rfl
class j3 (P:Program) (t:Td):Prop where
 und:P.underlying t=some .string:=by kernel_rfl
class Cells (P:Program) (t:Td) (k b:outParam Nat):Prop where
 size:(P.info? t).map (λi=>(i.size,i.bytes))=some (k,b):=by kernel_rfl
theorem jD {b:Nat} {cs:LV} {E:Td} (h:w.heap[b]? =some (.cells cs.toArray E (0,0))) (i:Nat):w.cell? ⟨b,i,none⟩=cs[i]? :=by
 rw[cell_of_row w b i _ _ _ h];simp
theorem Gives.sJ {T b o:Nat} [h1:OneCell P T] {cs:LV} {E:Td} {v:Value} (hx:ρ x=.pointer (some ⟨b,o,none⟩)) (hb:w.heap[b]? =some (.cells cs.toArray E (0,0))) (hv:cs[o]? =some v):Gives P ρ (.load T x) ty w v w:=λ_ _ _ _=>by
 simp[execOp,hx,Instr.loadAt,Instr.sureAddr,loadVar,h1.agg,jD hb,hv]
theorem uy {b o k:Nat} {cs:LV} {E:Td} (hb:w.heap[b]? =some (.cells cs.toArray E (0,0))) {us:LV} (hu:(cs.drop o).take k=us) (hk:us.length=k):
    (loadCells ⟨b,o,none⟩ k).run P w=.ok us.toArray w:=by
  have:=run_loadCells_list (P:=P) w ⟨b,o,none⟩ us (λj v hj=>by
    rw[Addr.add_lit,jD hb];rw[<-hu,zck]at hj
    split at hj
    . rw[zco]at hj;exact hj
    cases hj)
  rw[hk]at this;exact this
theorem Gives.JZ {T b o k:Nat} [h1:Agg P T k] {cs:LV} {E:Td} {us:LV} (hx:ρ x=.pointer (some ⟨b,o,none⟩)) (hb:w.heap[b]? =some (.cells cs.toArray E (0,0))) (hu:(cs.drop o).take k=us) (hk:us.length=k):Gives P ρ (.load T x) ty w (.agg us.toArray) w:=λ_ _ _ _=>by
 simp[execOp,hx,Instr.loadAt,Instr.sureAddr,loadVar,h1.agg,h1.size,uy hb hu hk]
end gives
end Go.Mw
