/-
  Consistency in the program: proofs, peaks, appending, the root of peaks.
-/
import Derived.Test.YtopaednfjjjnbaaDoorCon5Fk
namespace Go.Proofs.YtopaednfjjjnbaaDoor
open Go Go.RowKit
set_option maxRecDepth 100000

def prV (ds : List Dig) (i : Int) : List Dig := if 1024 < ds.length then [] else if i < 1 ∨ (ds.length : Int) < i then [] else proofR ds i.toNat true
def prE (ds : List Dig) (i : Int) : Int := if 1024 < ds.length then 4 else if i < 1 ∨ (ds.length : Int) < i then 2 else 0
section
variable {ds : List Dig} {i : Int}
end
end Go.Proofs.YtopaednfjjjnbaaDoor
