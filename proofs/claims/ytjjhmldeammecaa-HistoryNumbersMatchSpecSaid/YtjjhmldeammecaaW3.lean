/-
  Walks of history's reference:a calendar that is looked at day by day.
-/
import Derived.Test.YtjjhmldeammecaaL1
namespace Go.Abs
open Go Go.Proofs
set_option maxRecDepth 4000
theorem cw_le (fr hol:List Int) (a:Int):∀n,cw fr hol a n≤n
 | 0=>Nat.le_refl _
 | n+1=>by have:=cw_le fr hol a n;simp only[cw];split<;>omega
end Go.Abs
