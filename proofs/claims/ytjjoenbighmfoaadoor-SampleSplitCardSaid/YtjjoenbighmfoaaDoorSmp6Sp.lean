/-
  Places counted, distinct, in a batch: the reference.
-/
import Derived.Test.YtjjoenbighmfoaaDoorSmp5Sp
namespace Go.Proofs.YtjjoenbighmfoaaDoor
open Go Go.RowKit
set_option maxRecDepth 100000

section
variable {c : Cx} {σ : Slots} {H : Blocks} {ty : TypeId} {pos : String} {af : Array Edge} {gd : Option (Nat × Bool)} {dst : Option Nat}
end
end Go.Proofs.YtjjoenbighmfoaaDoor
