/-
  DiskPlays, of all numbers of sectors.
-/
import Derived.Test.YteflbohpabdjkaaPlayW
import Derived.Test.YteflbohpabdjkaaOpenDo
namespace Go.Proofs.Yteflbohpabdjkaa
open Go Go.Mw

theorem plays_any {w : World} {n : Int} {L : Option Addr} {cl : Nat} {l : List DoM} (hr : RowAt w L l.length 4 (l.flatMap doCells)) (hl : ∀ x ∈ l, x.good w) :
    Rets Try.prog 8 [I n, .slice L l.length cl] w fun v w' => v = .bool true ∧ Kept noB w w' := by
  by_cases hn : 1 ≤ n ∧ n ≤ 65536
  · exact plays_ok hn hr hl
  · exact plays_bad hn
end Go.Proofs.Yteflbohpabdjkaa
