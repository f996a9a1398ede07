/-
  The chapter's examples of trees; following a path, replacing a leaf, the root of two parts.
-/
import Derived.Test.YtopaednfjjjnbaaDoorMer4Nm
namespace Go.Proofs.YtopaednfjjjnbaaDoor
open Go Go.RowKit
set_option maxRecDepth 100000

def oneD (c : UInt8) : Dig := ⟨List.replicate 32 c, List.length_replicate⟩
def fillC (c : UInt8) (i : Nat) : List UInt8 := List.replicate i c ++ List.replicate (32 - i) 0
section
variable {c : Cx} {σ : Slots} {H : Blocks} {ty : TypeId} {pos : String} {af : Array Edge} {gd : Option (Nat × Bool)} {dst : Option Nat}
end

end Go.Proofs.YtopaednfjjjnbaaDoor
