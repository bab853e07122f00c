/-
  The calls of a play, plainly; and how they lie in memory.
-/
import Derived.Test.YteflbohpabdjkaaPlayA
namespace Go.Proofs.Yteflbohpabdjkaa
open Go Go.Mw

structure DoM where
  kind : Int
  at_ : Int
  ab : Option Addr
  bs : List UInt8
  cb : Nat
  ak : Option Addr
  ks : List Int
  ck : Nat
def doCells (x : DoM) : List Value := [I x.kind, I x.at_, .slice x.ab x.bs.length x.cb, .slice x.ak x.ks.length x.ck]
structure DoM.good (w : World) (x : DoM) : Prop where
  kind : fits x.kind
  at_ : fits x.at_
  hb : x.bs.length ≤ x.cb
  hk : x.ks.length ≤ x.ck
  rb : RowAt w x.ab x.bs.length 1 (x.bs.map B)
  rk : RowAt w x.ak x.ks.length 1 (x.ks.map I)
theorem doCells_get (l : List DoM) (i : Nat) (hi : i < l.length) (j : Nat) (v : Value) (hv : (doCells l[i])[j]? = some v) : (l.flatMap doCells)[i * 4 + j]? = some v := by
  induction l generalizing i with
  | nil => simp at hi
  | cons x l ih =>
    rw [List.flatMap_cons]
    cases i with
    | zero =>
      have hj := (List.getElem?_eq_some_iff.1 hv).1
      rw [Nat.zero_mul, Nat.zero_add, List.getElem?_append_left (show j < (doCells x).length from hj)]; exact hv
    | succ i =>
      have hx : (doCells x).length = 4 := rfl
      rw [List.getElem?_append_right (by omega)]
      have : (i + 1) * 4 + j - (doCells x).length = i * 4 + j := by omega
      rw [this]
      exact ih i (by simpa using hi) hv
end Go.Proofs.Yteflbohpabdjkaa
