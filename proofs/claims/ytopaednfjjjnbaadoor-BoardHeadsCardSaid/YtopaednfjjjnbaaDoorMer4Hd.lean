/-
  The length of a path; following a path; in the reference and in the program.
-/
import Derived.Test.YtopaednfjjjnbaaDoorMer3Hd
namespace Go.Proofs.YtopaednfjjjnbaaDoor
open Go Go.RowKit
set_option maxRecDepth 100000

def badT (i n : Int) : Prop := n < 1 ∨ 1024 < n ∨ i < 0 ∨ n ≤ i
instance (i n : Int) : Decidable (badT i n) := inferInstanceAs (Decidable (_ ∨ _))
def plV (i n : Int) : Nat := if badT i n then 0 else stepsR i.toNat n.toNat
def plE (i n : Int) : Int := if badT i n then 2 else 0
def foV (x : Dig) (i n : Int) (ds : List Dig) : Dig := if badT i n then zeroD else if ds.length ≠ stepsR i.toNat n.toNat then zeroD else ledR x i.toNat n.toNat ds
def foE (i n : Int) (ds : List Dig) : Int := if badT i n then 2 else if ds.length ≠ stepsR i.toNat n.toNat then 280 else 0
section
variable {x : Dig} {ds : List Dig}
end
end Go.Proofs.YtopaednfjjjnbaaDoor
