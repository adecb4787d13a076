/-
  Abs, part 26: words on days (no program is in sight).
-/
import Derived.Test.YtjjhmldeammecaaA25
namespace Go.Abs
open Go
/-- The fault of numbers up to a greatest one, in order. -/
def rise (m : Int) : Option Int → List Int → Int
  | _, [] => 0
  | p, n :: r => if n < 0 ∨ m < n then 9 else if ∃ q, p = some q ∧ n ≤ q then 10 else rise m (some n) r
def riseAt (m : Int) (l : List Int) (i : Nat) : Int := rise m (if i = 0 then none else l[i - 1]?) (l.drop i)
/-- The fault of a calendar. -/
def calFault (fr hol : List Int) : Int :=
  if 6 < fr.length ∨ 2000 < hol.length then 3 else if riseAt 6 fr 0 ≠ 0 then riseAt 6 fr 0 else riseAt 1000000 hol 0
structure CalOk (fr hol : List Int) : Prop where
  fr7 : ∀ x ∈ fr, 0 ≤ x ∧ x ≤ 6
  frS : fr.Pairwise (· < ·)
  frL : fr.length ≤ 6
  holM : ∀ x ∈ hol, 0 ≤ x ∧ x ≤ 1000000
  holS : hol.Pairwise (· < ·)
  holL : hol.length ≤ 2000
def bits (l : List Int) : List Bool := (List.range 7).map fun (i : Nat) => decide ((i : Int) ∈ l)
def firstF (p : Nat → Bool) : Nat → Nat → Nat
  | i, 0 => i
  | i, n + 1 => if p i then i else firstF p (i + 1) n
def first (p : Nat → Bool) (n : Nat) : Nat := firstF p 0 n
/-- Is it a work day? -/
def isWork (fr hol : List Int) (d : Int) : Bool := !decide (d.tmod 7 ∈ fr) && !decide (d ∈ hol)
/-- The work days among the first n behind a day. -/
def cw (fr hol : List Int) (a : Int) : Nat → Nat
  | 0 => 0
  | n + 1 => cw fr hol a n + (if isWork fr hol (a + n) then 1 else 0)
/-- How many days on there are so many work days, if any. -/
def addK (fr hol : List Int) (d n : Int) : Nat := first (fun k => decide (n ≤ (cw fr hol d k : Int))) (1000001 - d).toNat
def below (l : List Int) (t : Int) : Nat := (l.filter (fun x => decide (x < t))).length
def notFree (fr : List Int) (d : Int) : Bool := !decide (d.tmod 7 ∈ fr)
def part (fr : List Int) (n : Nat) : Nat := ((List.range n).filter fun (i : Nat) => !decide ((i : Int) ∈ fr)).length
def wcount (fr hol : List Int) (d : Int) : Int := d.tdiv 7 * (7 - fr.length) + part fr (d.tmod 7).toNat - below (hol.filter (notFree fr)) d

end Go.Abs
